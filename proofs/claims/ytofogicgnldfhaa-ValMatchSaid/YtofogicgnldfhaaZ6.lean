/- Walks: RightPat; it is what CheckPat checks. No condition. -/
import Derived.Test.YtofogicgnldfhaaZ5
import Derived.Test.YtofogicgnldfhaaPYi
set_option linter.unusedSimpArgs false
set_option linter.unusedVariables false
set_option maxHeartbeats 4000000
set_option maxRecDepth 100000
namespace Go.Proofs.Ytofogicgnldfhaa
open Go Go.Ab
open Nat (reduceEqDiff reduceAdd reduceLT reduceLeDiff reduceMul reducePow)
attribute [local irreducible] PCalls ACalls CallK GoCall GoDCall GoIf GoGb GoDGb GoO GoD GoX GoDX GoG GoDG GoGv GoDGv Go ALoop

def freshS (l : List ByteArray) : Bool := allN l.length fun i => !hasS (l.take i) (l.getD i ByteArray.empty)
theorem rRightPat_ok (p : Pt) (hs : sizeP p ≤ 1000000) : PCalls Try.prog 24 [embP p] (.bool (okA p && freshS (namesP p))) := by
  have q1 := rpat_ok p
  have q2 := rNames_ok p hs
  cases ho : okA p with
  | false =>
    rw [ho] at q1
    refine pcalls_text C_ok Try.func24 rfl (by decide) (Nat.le_of_ble_eq_true rfl) (by decide) rfl fun ok H => ?_
    rw [Try.results24]
    repeat' first
     | ((first | apply goGb_op (fun _ _ => rfl) | apply goDGb_op (fun _ _ => rfl)); (· intro hb; (try simp only [Bool.and_eq_true, Bool.not_eq_true', Bool.or_eq_false_iff, Bool.not_eq_false'] at hb); simp only [hb, ↓upd_eq, ↓envL_cons, WZ, reduceIte, reduceEqDiff, reduceAdd, reduceLT, reduceLeDiff, reduceCtorEq, reduceMul, reducePow, W1, W1P, W5]; exact ⟨rfl, trivial⟩))
     | ((first | apply goGb_call (q1) | apply goDGb_call (q1) | apply goGb_call (q2) | apply goDGb_call (q2)); (· intro hb; (try simp only [Bool.and_eq_true, Bool.not_eq_true', Bool.or_eq_false_iff, Bool.not_eq_false'] at hb); simp only [hb, AV.norm, AV.normL, W2, W2P, ↓upd_eq, ↓envL_cons, WZ, reduceIte, reduceEqDiff, reduceAdd, reduceLT, reduceLeDiff, reduceCtorEq, reduceMul, reducePow, W1, W1P, W5]; rfl))
     | (with_reducible first | apply bA | apply bB | apply bC | apply bD | apply bE | apply bF) <;> intro h <;> try simp only [h, ↓upd_eq, ↓envL_cons, WZ, reduceIte, reduceEqDiff, reduceAdd, reduceLT, reduceLeDiff, reduceCtorEq, reduceMul, reducePow, W1, W1P, W5]
     | ((first | refine goCall_norm ?_ | refine goDCall_norm ?_); simp only [AV.norm, AV.normL, W2, W2P]; first | refine goCall_p (q1) (.inl rfl) ?_ | refine goCall_p (q2) (.inl rfl) ?_ | refine goDCall_p (q1) (.inl rfl) ?_ | refine goDCall_p (q2) (.inl rfl) ?_)
     | refine go_draw (id := 7) C_ok (fun _ => trivial) mixed 0 Try.f24.ntmps rfl (by kernel_rfl) (by decide) ?_
     | simp only [↓upd_eq, ↓envL_cons, WZ, reduceIte, reduceEqDiff, reduceAdd, reduceLT, reduceLeDiff, reduceCtorEq, reduceMul, reducePow, W1, W1P, W5]
  | true =>
    rw [ho] at q1
    have hn := namesF_len p []
    simp only [List.length_nil, Nat.zero_add] at hn
    change (namesP p).length ≤ _ at hn
    rw [Bool.true_and]
    generalize namesP p = l at *
    have hmax : l.length ≤ maxLen := by rw [maxLen_val]; omega
    have hfalse : ∀ i, i < l.length → hasS (l.take i) (l.getD i ByteArray.empty) = true → freshS l = false := fun i h1 h2 => by
      unfold freshS; exact allN_false h1 (by rw [h2]; rfl)
    refine pcalls_text C_ok Try.func24 rfl (by decide) (Nat.le_of_ble_eq_true rfl) (by decide) rfl fun ok H => ?_
    rw [Try.results24]
    have h := True.intro
    repeat' (first
     | (with_reducible first | apply bA | apply bB | apply bC | apply bD | apply bE | apply bF) <;> intro h
     | ((first | refine goCall_norm ?_ | refine goDCall_norm ?_); simp only [AV.norm, AV.normL, W2, W2P]; first | refine goCall_p (q1) (.inl rfl) ?_ | refine goCall_p (q2) (.inl rfl) ?_ | refine goDCall_p (q1) (.inl rfl) ?_ | refine goDCall_p (q2) (.inl rfl) ?_)
     | refine go_draw (id := 7) C_ok (fun _ => trivial) mixed 0 Try.f24.ntmps rfl (by kernel_rfl) (by decide) ?_
     | skip) <;> simp only [h, ↓upd_eq, ↓envL_cons, WZ, reduceIte, reduceEqDiff, reduceAdd, reduceLT, reduceLeDiff, reduceCtorEq, reduceMul, reducePow, W1, W1P]
    refine aloop_trim [4, 3] ?_
    simp only [List.map_cons, List.map_nil, ↓upd_eq, ↓envL_cons, WZ, reduceIte, reduceEqDiff, reduceAdd, reduceLT, reduceLeDiff, reduceCtorEq, reduceMul, reducePow, W1, W1P]
    refine goLoopS 1 (fun i : Nat => [(4, .int .i64 i)]) (fun _ => _) (fun i => i ≤ l.length ∧ ∀ j, j < i → hasS (l.take j) (l.getD j ByteArray.empty) = false) (fun i => l.length - i) C_ok 0 rfl rfl ⟨Nat.zero_le _, fun j hj => by omega⟩ (by decide) ?_
    rintro i ⟨hi, hall⟩
    simp only [List.drop_succ_cons, List.drop_zero, List.cons_append, List.nil_append]
    simp only [↓upd_eq, ↓envL_cons, WZ, reduceIte, reduceEqDiff, reduceAdd, reduceLT, reduceLeDiff, reduceCtorEq, reduceMul, reducePow, W1, W1P]
    refine goIf_d (fun hlt => ?_) (fun hlt => ?_)
    · have htk : (l.map ST).take i = (l.take i).map ST := (List.map_take ..).symm
      have q3 := rhasS_ok (l.take i) (l.getD i ByteArray.empty)
      have c0 : ((0 : Int) ≤ (i : Int)) = True := by simp
      have c1 : ((i : Int) ≤ (l.length : Int)) = True := by simp only [eq_iff_iff, iff_true]; omega
      have t0 : Int.toNat 0 = 0 := rfl
      have h := True.intro
      repeat' (first
       | (with_reducible first | apply bA | apply bB | apply bC | apply bD | apply bE | apply bF) <;> intro h
       | ((first | refine goCall_norm ?_ | refine goDCall_norm ?_); simp only [AV.norm, AV.normL, W2, W2P, hlt, htk, c0, c1, t0, Int.le_refl, all_str1, map_str_get hlt, st_eq, Int.toNat_natCast, List.length_map, strs_norm]; first | refine goCall_p (q3) (.inl rfl) ?_ | refine goDCall_p (q3) (.inl rfl) ?_)
       | refine go_draw (id := 7) C_ok (fun _ => trivial) mixed 0 Try.f24.ntmps rfl (by kernel_rfl) (by decide) ?_
       | skip) <;> simp only [h, ↓upd_eq, ↓envL_cons, WZ, reduceIte, reduceEqDiff, reduceAdd, reduceLT, reduceLeDiff, reduceCtorEq, reduceMul, reducePow, W1, W1P, hlt, htk, c0, c1, t0, Int.le_refl, all_str1, map_str_get hlt, st_eq, Int.toNat_natCast, List.length_map, strs_norm]
      · exact (hfalse i hlt h).symm
      · refine ⟨i + 1, ⟨hlt, fun j hj => ?_⟩, by omega, weak_drop rfl rfl rfl rfl ?_ ?_ ?_⟩
        · rcases Nat.lt_succ_iff_lt_or_eq.1 hj with hj | rfl
          · exact hall j hj
          · exact h
        all_goals simp only [List.forall_mem_cons, mem_nil_all, frz_app, ↓upd_eq, ↓envL_cons, Nat.reduceEqDiff, if_true, if_false, reduceIte, true_and, and_true, and_self, true_or, or_true, implies_true, List.not_mem_nil, false_implies, AV.bel, AV.belL, AObj.bel, AV.norm, AV.normL, Bool.and_true, Bool.true_and, decide_true, decide_eq_true_eq, List.length_cons, List.length_nil, Nat.zero_add, Nat.reduceAdd, Nat.lt_add_one, Nat.lt_add_right_iff_pos, Nat.zero_lt_succ, Nat.zero_lt_one, Nat.reduceLT, List.take_succ_cons, List.take_zero, wrap_succ hlt hmax, strs_bel, mapP_bel, AV.belL, List.length_map]
    · simp only [↓upd_eq, ↓envL_cons, WZ, reduceIte, reduceEqDiff, reduceAdd, reduceLT, reduceLeDiff, reduceCtorEq, reduceMul, reducePow, W1, W1P]
      have : freshS l = true := by unfold freshS; exact allN_true fun j hj => by rw [hall j (by omega)]; rfl
      exact this.symm

mutual
theorem namesF_pre : ∀ (p : Pt) (l : List ByteArray), ∃ t, namesF p l = l ++ t
  | .mk k f t m n s ks, l => by
    obtain ⟨t, h⟩ := namesFL_pre ks (if k = 2 then l ++ [m] else l)
    rw [namesF, h]
    split
    · exact ⟨[m] ++ t, by rw [List.append_assoc]⟩
    · exact ⟨t, rfl⟩
theorem namesFL_pre : ∀ (ks : List Pt) (l : List ByteArray), ∃ t, namesFL ks l = l ++ t
  | [], l => ⟨[], by simp [namesFL]⟩
  | x :: xs, l => by
    obtain ⟨t, h⟩ := namesF_pre x l
    obtain ⟨t', h'⟩ := namesFL_pre xs (namesF x l)
    rw [namesFL, h', h]
    exact ⟨t ++ t', by rw [List.append_assoc]⟩
end
theorem nodup_pre {l t : List ByteArray} (h : (l ++ t).Nodup) : l.Nodup := (List.nodup_append.1 h).1
theorem ba_beq (a b : ByteArray) : (a == b) = true ↔ a = b := by
  obtain ⟨x⟩ := a
  obtain ⟨y⟩ := b
  show (x == y) = true ↔ _
  rw [beq_iff_eq, ByteArray.mk.injEq]
theorem stepP_some {l : List ByteArray} {p : Pt} (h : okP p = true) (hn : (if p.kind = 2 then l ++ [p.name] else l).Nodup) : stepP l p = some (if p.kind = 2 then l ++ [p.name] else l) := by
  unfold stepP
  rw [if_neg (by simp [h])]
  by_cases hk : p.kind = 2
  · rw [if_pos hk, if_pos hk]
    rw [if_pos hk] at hn
    have : (l.any (p.name == ·)) = false := by
      rw [List.any_eq_false]
      intro x hx hxe
      have hxe : p.name = x := (ba_beq _ _).1 hxe
      have := (List.nodup_append.1 hn).2.2 x hx p.name (by simp)
      exact this hxe.symm
    rw [this]; rfl
  · rw [if_neg hk, if_neg hk]
theorem stepP_sound {l l' : List ByteArray} {p : Pt} (hl : l.Nodup) (h : stepP l p = some l') : okP p = true ∧ l' = (if p.kind = 2 then l ++ [p.name] else l) ∧ l'.Nodup := by
  unfold stepP at h
  split at h
  · cases h
  · rename_i ho
    have ho : okP p = true := by simpa using ho
    by_cases hk : p.kind = 2
    · rw [if_pos hk] at h ⊢
      split at h
      · cases h
      · rename_i ha
        cases h
        refine ⟨ho, rfl, ?_⟩
        rw [List.nodup_append]
        refine ⟨hl, by simp, fun a ha' b hb => ?_⟩
        have hb : b = p.name := by simpa using hb
        subst hb
        rintro rfl
        exact ha (by rw [List.any_eq_true]; exact ⟨_, ha', (ba_beq _ _).2 rfl⟩)
    · rw [if_neg hk] at h ⊢
      cases h
      exact ⟨ho, rfl, hl⟩
mutual
theorem chkR_yes : ∀ (p : Pt) (l : List ByteArray), okA p = true → (namesF p l).Nodup → chkR p l = (true, namesF p l)
  | .mk k f t m n s ks, l, ho, hn => by
    rw [okA, Bool.and_eq_true] at ho
    rw [namesF] at hn ⊢
    obtain ⟨t', h⟩ := namesFL_pre ks (if k = 2 then l ++ [m] else l)
    have hn' := hn
    rw [h] at hn'
    have hs := stepP_some (p := .mk k f t m n s ks) ho.1 (nodup_pre hn')
    rw [chkR_eq, hs]
    exact chkRL_yes ks _ ho.2 hn
theorem chkRL_yes : ∀ (ks : List Pt) (l : List ByteArray), okAL ks = true → (namesFL ks l).Nodup → chkRL ks l = (true, namesFL ks l)
  | [], l, _, _ => rfl
  | x :: xs, l, ho, hn => by
    rw [okAL, Bool.and_eq_true] at ho
    rw [namesFL] at hn ⊢
    obtain ⟨t', h⟩ := namesFL_pre xs (namesF x l)
    have hn' := hn
    rw [h] at hn'
    have hx := chkR_yes x l ho.1 (nodup_pre hn')
    rw [chkRL, hx, if_pos rfl]
    exact chkRL_yes xs _ ho.2 hn
end
mutual
theorem chkR_sound : ∀ (p : Pt) (l : List ByteArray), l.Nodup → (chkR p l).1 = true → okA p = true ∧ (namesF p l).Nodup ∧ (chkR p l).2 = namesF p l
  | .mk k f t m n s ks, l, hl, h => by
    rw [chkR_eq] at h ⊢
    cases hs : stepP l (.mk k f t m n s ks) with
    | none => rw [hs] at h; cases h
    | some l' =>
      rw [hs] at h
      simp only at h ⊢
      obtain ⟨h1, h2, h3⟩ := stepP_sound hl hs
      simp only [Pt.kind, Pt.name, Pt.kids] at h1 h2 h ⊢
      subst h2
      obtain ⟨h4, h5, h6⟩ := chkRL_sound ks _ h3 h
      rw [okA, namesF, Bool.and_eq_true]
      exact ⟨⟨h1, h4⟩, h5, h6⟩
theorem chkRL_sound : ∀ (ks : List Pt) (l : List ByteArray), l.Nodup → (chkRL ks l).1 = true → okAL ks = true ∧ (namesFL ks l).Nodup ∧ (chkRL ks l).2 = namesFL ks l
  | [], l, hl, _ => ⟨rfl, hl, rfl⟩
  | x :: xs, l, hl, h => by
    rw [chkRL] at h ⊢
    by_cases hx : (chkR x l).1 = true
    · rw [if_pos hx] at h ⊢
      obtain ⟨h1, h2, h3⟩ := chkR_sound x l hl hx
      rw [h3] at h ⊢
      obtain ⟨h4, h5, h6⟩ := chkRL_sound xs _ h2 h
      rw [okAL, namesFL, h1, h4]
      exact ⟨rfl, h5, h6⟩
    · rw [if_neg hx] at h; exact absurd h hx
end
theorem hasS_mem (l : List ByteArray) (s : ByteArray) : hasS l s = true ↔ s ∈ l := by
  unfold hasS
  rw [List.any_eq_true]
  constructor
  · rintro ⟨x, hx, he⟩
    have he : x.toList = s.toList := by simpa using he
    rw [ByteArray.toList_eq, ByteArray.toList_eq] at he
    rwa [← bytes_ext he]
  · intro h; exact ⟨s, h, by simp⟩
theorem freshS_nodup (l : List ByteArray) : freshS l = true ↔ l.Nodup := by
  unfold freshS
  rw [allN_iff, List.Nodup, List.pairwise_iff_getElem]
  constructor
  · intro h i j hi hj hij he
    have h1 := h j hj
    have : hasS (l.take j) (l.getD j ByteArray.empty) = true := by
      rw [hasS_mem]
      have : l.getD j ByteArray.empty = l[j] := by simp [hj]
      rw [this, ← he, List.mem_take_iff_getElem]
      exact ⟨i, by omega, rfl⟩
    rw [this] at h1; cases h1
  · intro h j hj
    cases hh : hasS (l.take j) (l.getD j ByteArray.empty) with
    | false => rfl
    | true =>
      rw [hasS_mem] at hh
      have e : l.getD j ByteArray.empty = l[j] := by simp [hj]
      rw [e, List.mem_take_iff_getElem] at hh
      obtain ⟨i, hi, he⟩ := hh
      exact absurd he (h i j (by omega) hj (by omega))
theorem chkP_page (p : Pt) : chkP p = (okA p && freshS (namesP p)) := by
  rw [Bool.eq_iff_iff, Bool.and_eq_true, freshS_nodup]
  unfold chkP namesP
  constructor
  · intro h
    obtain ⟨h1, h2, _⟩ := chkR_sound p [] List.nodup_nil h
    exact ⟨h1, h2⟩
  · rintro ⟨h1, h2⟩
    rw [chkR_yes p [] h1 h2]

end Go.Proofs.Ytofogicgnldfhaa
