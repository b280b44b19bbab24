/- Layer 12: a copy is the type with other nodes for variables: what the statement itself makes of it. No condition. -/
import Derived.Test.YtdngjamjccjlmaaW24
import Derived.Test.YtdngjamjccjlmaaW20
set_option linter.unusedSimpArgs false
set_option linter.unusedVariables false
set_option maxHeartbeats 4000000
set_option maxRecDepth 100000
namespace Go.Proofs.Ytdngjamjccjlmaa
open Go Go.Ab
attribute [local irreducible] PCalls ACalls CallK GoCall GoDCall GoIf GoGb GoDGb GoO GoD GoX GoDX GoG GoDG GoGv GoDGv Go ALoop

def fPut (Z : List (Int × Int)) (z : Int) : Option Ty := (mget Z z).map fun t => leafT (t + 1)
theorem fOf_put {S : St} {Z : List (Int × Int)} (h : Wf S) (hz : ∀ k x, mget Z k = some x → ∃ i : Nat, x = i ∧ i < 5) : fOf S Z = fPut Z := by
  funext z
  unfold fOf fPut
  cases e : mget Z z with
  | none => rfl
  | some x => obtain ⟨i, rfl, hi⟩ := hz _ _ e; simp [(put_leaf h hi).2, leafT]
theorem toM_first {fr tt : List Nat} (h : fr.length = tt.length) {n : Int} : ∀ {i : Nat}, i < fr.length → ((fr.getD i 0 : Nat) : Int) = n → (∀ j, j < i → ((fr.getD j 0 : Nat) : Int) ≠ n) → mget (toM fr tt) n = some ((tt.getD i 0 : Nat) : Int) := by
  induction fr generalizing tt with
  | nil => intro i hi; simp at hi
  | cons f fr ih =>
    cases tt with
    | nil => simp at h
    | cons t tt =>
      intro i hi e hj
      simp only [toM, List.zip_cons_cons, List.map_cons, mget]
      cases i with
      | zero => rw [if_pos (by simpa using e)]; rfl
      | succ i =>
        rw [if_neg (by have := hj 0 (by omega); simpa using this)]
        exact ih (tt := tt) (by simpa using h) (by simpa using hi) (by simpa using e) fun j h => by have := hj (j + 1) (by omega); simpa using this
theorem toM_none {fr tt : List Nat} (h : fr.length = tt.length) {n : Int} (hj : ∀ j, j < fr.length → ((fr.getD j 0 : Nat) : Int) ≠ n) : mget (toM fr tt) n = none := by
  refine Option.not_isSome_iff_eq_none.1 fun hs => ?_
  have := (mget_key _ _).1 hs
  rw [toM_keys _ _ h] at this
  obtain ⟨m, hm, rfl⟩ := List.mem_map.1 this
  obtain ⟨i, hi, rfl⟩ := List.mem_iff_getElem.1 hm
  exact hj i hi (by simp [hi])
section
variable {fr tt : List Nat}
theorem put12_leaf (hp : 0 < fr.length) (k n : Int) (hk : (k == 6) = false) : PCalls Try.prog 40 [emb (.mk k n []), .sl ((kidI fr).map I64) .no, .sl ((kidI tt).map I64) .no] (emb (.mk k n [])) := by
  have hp' : ((0 : Int) < fr.length) = True := by simp only [eq_iff_iff, iff_true]; omega
  refine pcalls_text C_ok Try.func40 rfl (by decide) (Nat.le_of_ble_eq_true rfl) (by decide) (emb_bel _ _) fun ok H => ?_
  rw [Try.results40]
  have h := True.intro
  repeat' (first
   | (with_reducible first | refine goIf_b ?_ ?_ | refine goIf_n ?_ ?_ | refine goIf_d ?_ ?_ | refine goIf_split ?_ ?_ | refine goGb_b ?_ ?_ | refine goGb_n ?_ ?_ | refine goGb_d ?_ ?_ | refine goGb_split ?_ ?_ | refine goDGb_b ?_ ?_ | refine goDGb_n ?_ ?_ | refine goDGb_d ?_ ?_ | refine goDGb_split ?_ ?_) <;> intro h
   | refine go_draw (id := 4) C_ok mixed 0 Try.f40.ntmps rfl (by kernel_rfl) (by decide) ?_
   | refine go_draw (id := 10) C_ok mixed 0 Try.f40.ntmps rfl (by kernel_rfl) (by decide) ?_
   | refine goRound ?_ C_ok Try.f40.ntmps rfl (by decide)
   | skip) <;> simp only [h, ↓upd_eq, ↓envL_cons, Go.Ab.W0, Go.Ab.WD, Go.Ab.WE, if_true, if_false, reduceIte, Nat.reduceEqDiff, Nat.reduceAdd, Nat.reduceLT, Nat.reduceLeDiff, reduceCtorEq, Nat.reduceMul, implies_true, forall_eq_or_imp, forall_eq, Nat.reducePow, W1, Go.Ab.W3, Int.reduceAdd, Int.reduceLT, Int.reduceToNat, Int.reduceBEq, Int.reduceBNe, Int.reduceLE, hp', hp, hk, kidI_len, List.length_map, cutNormal_normal]
theorem put12_one (hp : 0 < fr.length) (k n : Int) (hk : (k == 6) = false) {x x' : Ty} (i1 : PCalls Try.prog 40 [emb x, .sl ((kidI fr).map I64) .no, .sl ((kidI tt).map I64) .no] (emb x')) :
    PCalls Try.prog 40 [emb (.mk k n [x]), .sl ((kidI fr).map I64) .no, .sl ((kidI tt).map I64) .no] (emb (.mk k n [x'])) := by
  have hp' : ((0 : Int) < fr.length) = True := by simp only [eq_iff_iff, iff_true]; omega
  refine pcalls_text C_ok Try.func40 rfl (by decide) (Nat.le_of_ble_eq_true rfl) (by decide) (emb_bel _ _) fun ok H => ?_
  rw [Try.results40]
  have h := True.intro
  repeat' (first
   | (with_reducible first | refine goIf_b ?_ ?_ | refine goIf_n ?_ ?_ | refine goIf_d ?_ ?_ | refine goIf_split ?_ ?_ | refine goGb_b ?_ ?_ | refine goGb_n ?_ ?_ | refine goGb_d ?_ ?_ | refine goGb_split ?_ ?_ | refine goDGb_b ?_ ?_ | refine goDGb_n ?_ ?_ | refine goDGb_d ?_ ?_ | refine goDGb_split ?_ ?_) <;> intro h
   | ((first | refine goCall_norm ?_ | refine goDCall_norm ?_); simp only [AV.norm, AV.normL, W2, Go.Ab.W3, Int.reduceAdd, Int.reduceLT, Int.reduceToNat, Int.reduceBEq, Int.reduceBNe, Int.reduceLE, hp', hp, hk, kidI_len, List.length_map, ints_norm]; first | refine goCall_p (i1) (.inl rfl) ?_ | refine goDCall_p (i1) (.inl rfl) ?_)
   | refine go_draw (id := 4) C_ok mixed 0 Try.f40.ntmps rfl (by kernel_rfl) (by decide) ?_
   | refine go_draw (id := 10) C_ok mixed 0 Try.f40.ntmps rfl (by kernel_rfl) (by decide) ?_
   | refine goRound ?_ C_ok Try.f40.ntmps rfl (by decide)
   | skip) <;> simp only [h, ↓upd_eq, ↓envL_cons, Go.Ab.W0, Go.Ab.WD, Go.Ab.WE, if_true, if_false, reduceIte, Nat.reduceEqDiff, Nat.reduceAdd, Nat.reduceLT, Nat.reduceLeDiff, reduceCtorEq, Nat.reduceMul, implies_true, forall_eq_or_imp, forall_eq, Nat.reducePow, W1, Go.Ab.W3, Int.reduceAdd, Int.reduceLT, Int.reduceToNat, Int.reduceBEq, Int.reduceBNe, Int.reduceLE, hp', hp, hk, kidI_len, List.length_map, ints_norm, cutNormal_normal]
theorem put12_two (hp : 0 < fr.length) (k n : Int) (hk : (k == 6) = false) {x x' y y' : Ty} (i1 : PCalls Try.prog 40 [emb x, .sl ((kidI fr).map I64) .no, .sl ((kidI tt).map I64) .no] (emb x')) (i2 : PCalls Try.prog 40 [emb y, .sl ((kidI fr).map I64) .no, .sl ((kidI tt).map I64) .no] (emb y')) :
    PCalls Try.prog 40 [emb (.mk k n [x, y]), .sl ((kidI fr).map I64) .no, .sl ((kidI tt).map I64) .no] (emb (.mk k n [x', y'])) := by
  have hp' : ((0 : Int) < fr.length) = True := by simp only [eq_iff_iff, iff_true]; omega
  refine pcalls_text C_ok Try.func40 rfl (by decide) (Nat.le_of_ble_eq_true rfl) (by decide) (emb_bel _ _) fun ok H => ?_
  rw [Try.results40]
  have h := True.intro
  repeat' (first
   | (with_reducible first | refine goIf_b ?_ ?_ | refine goIf_n ?_ ?_ | refine goIf_d ?_ ?_ | refine goIf_split ?_ ?_ | refine goGb_b ?_ ?_ | refine goGb_n ?_ ?_ | refine goGb_d ?_ ?_ | refine goGb_split ?_ ?_ | refine goDGb_b ?_ ?_ | refine goDGb_n ?_ ?_ | refine goDGb_d ?_ ?_ | refine goDGb_split ?_ ?_) <;> intro h
   | ((first | refine goCall_norm ?_ | refine goDCall_norm ?_); simp only [AV.norm, AV.normL, W2, Go.Ab.W3, Int.reduceAdd, Int.reduceLT, Int.reduceToNat, Int.reduceBEq, Int.reduceBNe, Int.reduceLE, hp', hp, hk, kidI_len, List.length_map, ints_norm]; first | refine goCall_p (i1) (.inl rfl) ?_ | refine goCall_p (i2) (.inl rfl) ?_ | refine goDCall_p (i1) (.inl rfl) ?_ | refine goDCall_p (i2) (.inl rfl) ?_)
   | refine go_draw (id := 4) C_ok mixed 0 Try.f40.ntmps rfl (by kernel_rfl) (by decide) ?_
   | refine go_draw (id := 10) C_ok mixed 0 Try.f40.ntmps rfl (by kernel_rfl) (by decide) ?_
   | refine goRound ?_ C_ok Try.f40.ntmps rfl (by decide)
   | skip) <;> simp only [h, ↓upd_eq, ↓envL_cons, Go.Ab.W0, Go.Ab.WD, Go.Ab.WE, if_true, if_false, reduceIte, Nat.reduceEqDiff, Nat.reduceAdd, Nat.reduceLT, Nat.reduceLeDiff, reduceCtorEq, Nat.reduceMul, implies_true, forall_eq_or_imp, forall_eq, Nat.reducePow, W1, Go.Ab.W3, Int.reduceAdd, Int.reduceLT, Int.reduceToNat, Int.reduceBEq, Int.reduceBNe, Int.reduceLE, hp', hp, hk, kidI_len, List.length_map, ints_norm, cutNormal_normal]
theorem put12_var (h : fr.length = tt.length) (hl : fr.length ≤ 1000000) (ht : ∀ t ∈ tt, t < 5) (n : Int) : PCalls Try.prog 40 [emb (.mk 6 n []), .sl ((kidI fr).map I64) .no, .sl ((kidI tt).map I64) .no] (emb (match fPut (toM fr tt) n with | some y => y | none => .mk 6 n [])) := by
  have hmax : fr.length ≤ maxLen := by rw [maxLen_val]; omega
  have hfound : ∀ i, i < fr.length → ((fr.getD i 0 : Nat) : Int) = n → (∀ j, j < i → ((fr.getD j 0 : Nat) : Int) ≠ n) → emb (match fPut (toM fr tt) n with | some y => y | none => .mk 6 n []) = emb (leafT ((tt.getD i 0 : Nat) + 1 : Int)) := fun i hi e hj => by
    rw [fPut, toM_first h hi e hj]; rfl
  have hnone : (∀ j, j < fr.length → ((fr.getD j 0 : Nat) : Int) ≠ n) → emb (match fPut (toM fr tt) n with | some y => y | none => .mk 6 n []) = emb (.mk 6 n []) := fun hj => by
    rw [fPut, toM_none h hj]; rfl
  generalize emb (match fPut (toM fr tt) n with | some y => y | none => .mk 6 n []) = R at *
  have hR : R.bel 0 = true := by
    by_cases hx : ∃ i, i < fr.length ∧ ((fr.getD i 0 : Nat) : Int) = n ∧ ∀ j, j < i → ((fr.getD j 0 : Nat) : Int) ≠ n
    · obtain ⟨i, h1, h2, h3⟩ := hx; rw [hfound i h1 h2 h3]; exact emb_bel _ _
    · rw [hnone]; exact emb_bel _ _
      intro j hj
      induction j using Nat.strongRecOn with
      | _ j ih => exact fun e => hx ⟨j, hj, e, fun i hi => ih i hi (by omega)⟩
  refine pcalls_text C_ok Try.func40 rfl (by decide) (Nat.le_of_ble_eq_true rfl) (by decide) hR fun ok H => ?_
  rw [Try.results40]
  have h := True.intro
  repeat' (first
   | (with_reducible first | refine goIf_b ?_ ?_ | refine goIf_n ?_ ?_ | refine goIf_d ?_ ?_ | refine goIf_split ?_ ?_ | refine goGb_b ?_ ?_ | refine goGb_n ?_ ?_ | refine goGb_d ?_ ?_ | refine goGb_split ?_ ?_ | refine goDGb_b ?_ ?_ | refine goDGb_n ?_ ?_ | refine goDGb_d ?_ ?_ | refine goDGb_split ?_ ?_) <;> intro h
   | refine go_draw (id := 4) C_ok mixed 0 Try.f40.ntmps rfl (by kernel_rfl) (by decide) ?_
   | refine go_draw (id := 10) C_ok mixed 0 Try.f40.ntmps rfl (by kernel_rfl) (by decide) ?_
   | skip) <;> simp only [h, ↓upd_eq, ↓envL_cons, Go.Ab.W0, Go.Ab.WD, Go.Ab.WE, if_true, if_false, reduceIte, Nat.reduceEqDiff, Nat.reduceAdd, Nat.reduceLT, Nat.reduceLeDiff, reduceCtorEq, Nat.reduceMul, implies_true, forall_eq_or_imp, forall_eq, Nat.reducePow, W1, kidI_len, List.length_map]
  refine aloop_trim [7, 1, 2, 3, 6] ?_
  simp only [List.map_cons, List.map_nil, ↓upd_eq, ↓envL_cons, Go.Ab.W0, Go.Ab.WD, Go.Ab.WE, if_true, if_false, reduceIte, Nat.reduceEqDiff, Nat.reduceAdd, Nat.reduceLT, Nat.reduceLeDiff, reduceCtorEq, Nat.reduceMul, implies_true, forall_eq_or_imp, forall_eq, Nat.reducePow, W1]
  refine goLoopS 1 (fun i : Nat => [(7, .int .i64 i)]) (fun _ => _) (fun i => i ≤ fr.length ∧ ∀ j, j < i → ((fr.getD j 0 : Nat) : Int) ≠ n) (fun i => fr.length - i) C_ok 0 rfl rfl ⟨Nat.zero_le _, by simp⟩ (by decide) ?_
  rintro i ⟨hi, hall⟩
  simp only [List.drop_succ_cons, List.drop_zero, List.cons_append, List.nil_append]
  by_cases hlt : i < fr.length
  · have hlt2 : i < tt.length := by omega
    have ht5 := ht (tt.getD i 0) (by simp [hlt2])
    have w1 : IntKind.wrap .i64 (((tt.getD i 0 : Nat) : Int) + 1) = ((tt.getD i 0 : Nat) : Int) + 1 := wrap_i (by omega) (by omega)
    by_cases he : ((fr.getD i 0 : Nat) : Int) = n
    · have hb : (((fr.getD i 0 : Nat) : Int) == n) = true := beq_iff_eq.2 he
      have h := True.intro
      repeat' (first
       | (with_reducible first | refine goIf_b ?_ ?_ | refine goIf_n ?_ ?_ | refine goIf_d ?_ ?_ | refine goIf_split ?_ ?_ | refine goGb_b ?_ ?_ | refine goGb_n ?_ ?_ | refine goGb_d ?_ ?_ | refine goGb_split ?_ ?_ | refine goDGb_b ?_ ?_ | refine goDGb_n ?_ ?_ | refine goDGb_d ?_ ?_ | refine goDGb_split ?_ ?_) <;> intro h
       | ((first | refine goCall_norm ?_ | refine goDCall_norm ?_); simp only [AV.norm, AV.normL, W2, hlt, hlt2, hb, w1, kidI_len, kidI_get hlt, kidI_get hlt2, List.length_map]; first | refine goCall_p (leaf_ok _) (.inl rfl) ?_ | refine goDCall_p (leaf_ok _) (.inl rfl) ?_)
       | refine go_draw (id := 4) C_ok mixed 0 Try.f40.ntmps rfl (by kernel_rfl) (by decide) ?_
       | refine go_draw (id := 10) C_ok mixed 0 Try.f40.ntmps rfl (by kernel_rfl) (by decide) ?_
       | skip) <;> simp only [h, ↓upd_eq, ↓envL_cons, Go.Ab.W0, Go.Ab.WD, Go.Ab.WE, if_true, if_false, reduceIte, Nat.reduceEqDiff, Nat.reduceAdd, Nat.reduceLT, Nat.reduceLeDiff, reduceCtorEq, Nat.reduceMul, implies_true, forall_eq_or_imp, forall_eq, Nat.reducePow, W1, hlt, hlt2, hb, w1, kidI_len, kidI_get hlt, kidI_get hlt2, List.length_map]
      all_goals exact (hfound i hlt he hall).symm
    · have hb : (((fr.getD i 0 : Nat) : Int) == n) = false := beq_eq_false_iff_ne.2 he
      have h := True.intro
      repeat' (first
       | (with_reducible first | refine goIf_b ?_ ?_ | refine goIf_n ?_ ?_ | refine goIf_d ?_ ?_ | refine goIf_split ?_ ?_ | refine goGb_b ?_ ?_ | refine goGb_n ?_ ?_ | refine goGb_d ?_ ?_ | refine goGb_split ?_ ?_ | refine goDGb_b ?_ ?_ | refine goDGb_n ?_ ?_ | refine goDGb_d ?_ ?_ | refine goDGb_split ?_ ?_) <;> intro h
       | refine go_draw (id := 4) C_ok mixed 0 Try.f40.ntmps rfl (by kernel_rfl) (by decide) ?_
       | refine go_draw (id := 10) C_ok mixed 0 Try.f40.ntmps rfl (by kernel_rfl) (by decide) ?_
       | skip) <;> simp only [h, ↓upd_eq, ↓envL_cons, Go.Ab.W0, Go.Ab.WD, Go.Ab.WE, if_true, if_false, reduceIte, Nat.reduceEqDiff, Nat.reduceAdd, Nat.reduceLT, Nat.reduceLeDiff, reduceCtorEq, Nat.reduceMul, implies_true, forall_eq_or_imp, forall_eq, Nat.reducePow, W1, hlt, hlt2, hb, w1, kidI_len, kidI_get hlt, kidI_get hlt2, List.length_map]
      refine ⟨i + 1, ⟨by omega, fun j hj => ?_⟩, by omega, weak_drop rfl rfl rfl rfl ?_ ?_ ?_⟩
      · rcases Nat.lt_succ_iff_lt_or_eq.1 hj with hj | rfl
        · exact hall j hj
        · exact he
      all_goals simp only [List.forall_mem_cons, mem_nil_all, frz_app, ↓upd_eq, ↓envL_cons, Nat.reduceEqDiff, if_true, if_false, reduceIte, true_and, and_true, and_self, true_or, or_true, implies_true, List.not_mem_nil, false_implies, AV.bel, AV.belL, AObj.bel, AV.norm, AV.normL, Bool.and_true, Bool.true_and, decide_true, decide_eq_true_eq, List.length_cons, List.length_nil, Nat.zero_add, Nat.reduceAdd, Nat.lt_add_one, Nat.lt_add_right_iff_pos, Nat.zero_lt_succ, Nat.zero_lt_one, Nat.reduceLT, List.take_succ_cons, List.take_zero, wrap_succ hlt hmax, ints_bel]
  · have hR2 := hnone fun j hj => hall j (by omega)
    rw [hR2]
    have h := True.intro
    repeat' (first
     | (with_reducible first | refine goIf_b ?_ ?_ | refine goIf_n ?_ ?_ | refine goIf_d ?_ ?_ | refine goIf_split ?_ ?_ | refine goGb_b ?_ ?_ | refine goGb_n ?_ ?_ | refine goGb_d ?_ ?_ | refine goGb_split ?_ ?_ | refine goDGb_b ?_ ?_ | refine goDGb_n ?_ ?_ | refine goDGb_d ?_ ?_ | refine goDGb_split ?_ ?_) <;> intro h
     | refine go_draw (id := 4) C_ok mixed 0 Try.f40.ntmps rfl (by kernel_rfl) (by decide) ?_
     | refine go_draw (id := 10) C_ok mixed 0 Try.f40.ntmps rfl (by kernel_rfl) (by decide) ?_
     | refine goRound ?_ C_ok Try.f40.ntmps rfl (by decide)
     | skip) <;> simp only [h, ↓upd_eq, ↓envL_cons, Go.Ab.W0, Go.Ab.WD, Go.Ab.WE, if_true, if_false, reduceIte, Nat.reduceEqDiff, Nat.reduceAdd, Nat.reduceLT, Nat.reduceLeDiff, reduceCtorEq, Nat.reduceMul, implies_true, forall_eq_or_imp, forall_eq, Nat.reducePow, W1, Go.Ab.W3, Int.reduceAdd, Int.reduceLT, Int.reduceToNat, Int.reduceBEq, Int.reduceBNe, Int.reduceLE, hlt, kidI_len, List.length_map, cutNormal_normal]
theorem put12_ok (h : fr.length = tt.length) (hp : 0 < fr.length) (hl : fr.length ≤ 1000000) (ht : ∀ t ∈ tt, t < 5) : ∀ t : T, PCalls Try.prog 40 [emb t.ty, .sl ((kidI fr).map I64) .no, .sl ((kidI tt).map I64) .no] (emb (sbT (fPut (toM fr tt)) t.ty)) := by
  intro t
  induction t with
  | base k =>
    have hk : (((k.val : Int) + 1) == 6) = false := by rw [beq_eq_false_iff_ne]; have := k.isLt; omega
    have := put12_leaf (fr := fr) (tt := tt) hp ((k.val : Int) + 1) 0 hk
    simp only [T.ty]
    rw [sbT_eq, if_neg (by simpa using hk)]
    exact this
  | dyn =>
    have := put12_leaf (fr := fr) (tt := tt) hp 5 0 rfl
    simp only [T.ty]
    rw [sbT_eq, if_neg (by decide)]
    exact this
  | var n =>
    simp only [T.ty]
    rw [sbT_eq, if_pos rfl]
    exact put12_var h hl ht n
  | pair a b ih1 ih2 =>
    simp only [T.ty]
    rw [sbT_eq, if_neg (by decide)]
    exact put12_two hp 7 0 rfl ih1 ih2
  | fn a b ih1 ih2 =>
    simp only [T.ty]
    rw [sbT_eq, if_neg (by decide)]
    exact put12_two hp 9 0 rfl ih1 ih2
  | list a ih1 =>
    simp only [T.ty]
    rw [sbT_eq, if_neg (by decide)]
    exact put12_one hp 8 0 rfl ih1
end
/-! How many nodes have kids. -/
theorem inn_app (S : St) (x : Nd) : inn (S ++ [x]) = inn S + if x.kids ≠ [] then 1 else 0 := by
  unfold inn
  rw [List.length_append, List.length_singleton, List.range_succ, List.filter_append, List.length_append]
  congr 1
  · congr 1
    refine List.filter_congr fun i hi => ?_
    rw [List.mem_range] at hi
    exact decide_eq_decide.2 (by rw [St.kids, St.kids, St.nd_app hi])
  · simp only [List.filter_cons, List.filter_nil, St.kids, St.nd_app0]
    by_cases e : x.kids = [] <;> simp [e]
theorem madeN_inn (lvl : Int) : ∀ (t : T) (S : St) (Z : List (Int × Int)), inn (madeN lvl t S Z).1 = inn S + t.inner := by
  intro t
  induction t with
  | base k => intro S Z; rfl
  | dyn => intro S Z; rfl
  | var k =>
    intro S Z
    simp only [madeN]
    split
    · rfl
    · simp only [inn_app, T.inner]; simp
  | pair a b ih1 ih2 => intro S Z; simp only [madeN, inn_app, ih1, ih2, T.inner]; simp; omega
  | fn a b ih1 ih2 => intro S Z; simp only [madeN, inn_app, ih1, ih2, T.inner]; simp; omega
  | list a ih1 => intro S Z; simp only [madeN, inn_app, ih1, T.inner]; simp; omega
theorem sb_nodes (Z : List (Int × Int)) : ∀ t : T, nodes (sbT (fPut Z) t.ty) = nodes t.ty := by
  intro t
  induction t with
  | base k =>
    simp only [T.ty]
    rw [sbT_eq, if_neg (by have := k.isLt; omega)]
    rfl
  | dyn => rfl
  | var n =>
    simp only [T.ty]
    rw [sbT_eq, if_pos rfl, fPut]
    cases mget Z n <;> simp [leafT, nodes, nodesL]
  | pair a b ih1 ih2 => simp only [T.ty]; rw [sbT_eq, if_neg (by decide)]; simp [nodes, nodesL, ih1, ih2]
  | fn a b ih1 ih2 => simp only [T.ty]; rw [sbT_eq, if_neg (by decide)]; simp [nodes, nodesL, ih1, ih2]
  | list a ih1 => simp only [T.ty]; rw [sbT_eq, if_neg (by decide)]; simp [nodes, nodesL, ih1]

end Go.Proofs.Ytdngjamjccjlmaa
