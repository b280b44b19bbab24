/- Lemmas: binds and what is put for variables. No condition. -/
import Derived.Test.YtajdipeebpmifaaEmb
import Derived.Test.YtajdipeebpmifaaPCa
import Derived.Test.YtajdipeebpmifaaPVa
import Derived.Test.YtajdipeebpmifaaPFa
import Derived.Test.YtajdipeebpmifaaPHa

section
/- Binds of variables as abstract values. No condition. -/
set_option linter.defProp false
namespace Go.Proofs.Ytajdipeebpmifaa
open Go Go.Ab

abbrev Bd := Int × Ty
def embB (p : Bd) : AV := .agg [.int .i64 p.1, .int .i64 p.2.kind, .int .i64 p.2.num, .sl (p.2.kids.map emb) .no]
theorem embB_eq (p : Bd) : embB p = .agg [.int .i64 p.1, .int .i64 p.2.kind, .int .i64 p.2.num, .sl (p.2.kids.map emb) .no] := rfl
theorem embB_mk (v k n : Int) (l : List Ty) : AV.agg [.int .i64 v, .int .i64 k, .int .i64 n, .sl (l.map emb) .no] = embB (v, .mk k n l) := rfl
theorem embB_mk0 (v k n : Int) : AV.agg [.int .i64 v, .int .i64 k, .int .i64 n, .sl [] .no] = embB (v, .mk k n []) := rfl
theorem embB_cells (p : Bd) : cellsOf (embB p) = [.int .i64 p.1, .int .i64 p.2.kind, .int .i64 p.2.num, .sl (p.2.kids.map emb) .no] := rfl
theorem embB_solid (p : Bd) : (embB p).solid = true := rfl
theorem all_embB4 (l : List Bd) : (∀ y, y ∈ l.map embB → (cellsOf y).length = 4) = True := by
  simp only [eq_iff_iff, iff_true]; intro y hy; obtain ⟨t, _, rfl⟩ := List.mem_map.1 hy; rw [embB_cells]; rfl
theorem embB_norm (p : Bd) : (embB p).norm = embB p := by simp only [embB, AV.norm, AV.normL, map_norm]
theorem embB_bel (m : Nat) (p : Bd) : (embB p).bel m = true := by simp only [embB, AV.bel, AV.belL, map_bel, Bool.and_self]
theorem mapB_norm (l : List Bd) : AV.normL (l.map embB) = l.map embB := by
  induction l with
  | nil => rfl
  | cons a l ih => simp only [List.map_cons, AV.normL, embB_norm, ih]
theorem mapB_bel (m : Nat) (l : List Bd) : AV.belL m (l.map embB) = true := by
  induction l with
  | nil => rfl
  | cons a l ih => simp only [List.map_cons, AV.belL, embB_bel, ih, Bool.and_self]
theorem mapB_get {l : List Bd} {i : Nat} (h : i < l.length) : (l.map embB).getD i .any = embB (l.getD i default) := by simp [h]

def W1Bd := And.intro @all_embB4 (And.intro @embB_solid (And.intro @embB_cells (And.intro @embB_mk (And.intro @embB_mk0 (And.intro @embB_norm (@mapB_norm))))))
theorem W1B : type_of% W1Bd := W1Bd
def W2Bd := And.intro @embB_norm (And.intro @mapB_norm (And.intro @embB_mk (@embB_mk0)))
theorem W2B : type_of% W2Bd := W2Bd

end Go.Proofs.Ytajdipeebpmifaa
end

section
/- Binds: what is put for variables; types without ? and closed ones. No condition. -/
set_option linter.unusedSimpArgs false
set_option linter.unusedVariables false
set_option maxHeartbeats 4000000
set_option maxRecDepth 100000
namespace Go.Proofs.Ytajdipeebpmifaa
open Go Go.Ab
attribute [local irreducible] PCalls ACalls CallK GoCall GoDCall GoIf GoGb GoDGb GoO GoD GoX GoDX GoG GoDG GoGv GoDGv Go ALoop

def lookB : List Bd → Int → Option Ty
  | [], _ => none
  | p :: l, n => if p.1 = n then some p.2 else lookB l n
theorem lookB_at (l : List Bd) (n : Int) (i : Nat) (h : i < l.length) : lookB (l.drop i) n = if (l.getD i default).1 = n then some (l.getD i default).2 else lookB (l.drop (i + 1)) n := by
  rw [List.drop_eq_getElem_cons h, lookB]; simp [h]
mutual
def rputT (l : List Bd) : Ty → Ty
  | .mk k n ks => if k = 6 then (match lookB l n with | some t => t | none => .mk k n ks) else .mk k 0 (rputTL l ks)
def rputTL (l : List Bd) : List Ty → List Ty
  | [] => []
  | t :: ts => rputT l t :: rputTL l ts
end
theorem rputTL_map (l : List Bd) : ∀ ts : List Ty, rputTL l ts = ts.map (rputT l)
  | [] => rfl
  | t :: ts => by simp [rputTL, rputTL_map l ts]
theorem rputT_eq (l : List Bd) (t : Ty) : rputT l t = if t.kind = 6 then (match lookB l t.num with | some t => t | none => t) else .mk t.kind 0 (t.kids.map (rputT l)) := by
  cases t; rw [rputT, rputTL_map]; rfl
theorem range_map_kids' (t : Ty) (g : Ty → Ty) : (List.range t.kids.length).map (fun i => g (t.kid i)) = t.kids.map g := by
  conv => rhs; rw [← range_kids t]
  simp [Function.comp_def]
theorem rput_step (l : List Bd) (t : Ty) (hs : nodes t ≤ 1048576) (ih : ∀ x ∈ t.kids, PCalls Try.prog 56 [emb x, .sl (l.map embB) .no] (emb (rputT l x))) : PCalls Try.prog 56 [emb t, .sl (l.map embB) .no] (emb (rputT l t)) := by
  by_cases h6 : t.kind = 6
  · have e6 : (t.kind == 6) = true := by simp [h6]
    refine pcalls_text C_ok Try.func56 rfl (by decide) (Nat.le_of_ble_eq_true rfl) (by decide) (emb_bel _ _) fun ok H => ?_
    rw [Try.results56]
    have hmax : l.length ≤ maxLen := by
      have := ok.2.1; simp only [AV.okay, List.length_map] at this; exact this.1
    have h := True.intro
    repeat' (first
     | (with_reducible first | refine goIf_b ?_ ?_ | refine goIf_n ?_ ?_ | refine goIf_d ?_ ?_ | refine goIf_split ?_ ?_ | refine goGb_b ?_ ?_ | refine goGb_n ?_ ?_ | refine goGb_d ?_ ?_ | refine goGb_split ?_ ?_ | refine goDGb_b ?_ ?_ | refine goDGb_n ?_ ?_ | refine goDGb_d ?_ ?_ | refine goDGb_split ?_ ?_) <;> intro h
     | refine go_draw (id := 5) C_ok mixed 0 Try.f56.ntmps rfl (by kernel_rfl) (by decide) ?_
     | refine go_draw (id := 12) C_ok mixed 0 Try.f56.ntmps rfl (by kernel_rfl) (by decide) ?_
     | skip) <;> simp only [h, ↓upd_eq, ↓envL_cons, Go.Ab.W0, Go.Ab.WD, Go.Ab.WE, if_true, if_false, reduceIte, Nat.reduceEqDiff, Nat.reduceAdd, Nat.reduceLT, Nat.reduceLeDiff, reduceCtorEq, Nat.reduceMul, implies_true, forall_eq_or_imp, forall_eq, Nat.reducePow, W1, W1B, e6]
    refine aloop_trim [5, 1, 2, 4] ?_
    simp only [List.map_cons, List.map_nil, ↓upd_eq, ↓envL_cons, Go.Ab.W0, Go.Ab.WD, Go.Ab.WE, if_true, if_false, reduceIte, Nat.reduceEqDiff, Nat.reduceAdd, Nat.reduceLT, Nat.reduceLeDiff, reduceCtorEq, Nat.reduceMul, implies_true, forall_eq_or_imp, forall_eq, Nat.reducePow, W1, W1B]
    refine goLoopS 1 (fun i : Nat => [(5, .int .i64 i)]) (fun _ => _) (fun i => i ≤ l.length ∧ lookB (l.drop i) t.num = lookB l t.num) (fun i => l.length - i) C_ok 0 rfl rfl ⟨Nat.zero_le _, rfl⟩ (by decide) ?_
    rintro i ⟨hi, hr⟩
    simp only [List.drop_succ_cons, List.drop_zero, List.cons_append, List.nil_append]
    simp only [↓upd_eq, ↓envL_cons, Go.Ab.W0, Go.Ab.WD, Go.Ab.WE, if_true, if_false, reduceIte, Nat.reduceEqDiff, Nat.reduceAdd, Nat.reduceLT, Nat.reduceLeDiff, reduceCtorEq, Nat.reduceMul, implies_true, forall_eq_or_imp, forall_eq, Nat.reducePow, W1, W1B]
    refine goIf_d (fun hlt => ?_) (fun hlt => ?_)
    · rw [lookB_at l t.num i hlt] at hr
      by_cases e : (l.getD i default).1 = t.num
      · have e1 : ((l.getD i default).1 == t.num) = true := by simpa using e
        rw [if_pos e] at hr
        have e2 : rputT l t = (l.getD i default).2 := by rw [rputT_eq, if_pos h6, ← hr]
        rw [e2]
        have hg := mapB_get hlt
        clear hr e
        generalize l.getD i default = p at *
        have h := True.intro
        repeat' (first
         | (with_reducible first | refine goIf_b ?_ ?_ | refine goIf_n ?_ ?_ | refine goIf_d ?_ ?_ | refine goIf_split ?_ ?_ | refine goGb_b ?_ ?_ | refine goGb_n ?_ ?_ | refine goGb_d ?_ ?_ | refine goGb_split ?_ ?_ | refine goDGb_b ?_ ?_ | refine goDGb_n ?_ ?_ | refine goDGb_d ?_ ?_ | refine goDGb_split ?_ ?_) <;> intro h
         | refine go_draw (id := 5) C_ok mixed 0 Try.f56.ntmps rfl (by kernel_rfl) (by decide) ?_
         | refine go_draw (id := 12) C_ok mixed 0 Try.f56.ntmps rfl (by kernel_rfl) (by decide) ?_
         | skip) <;> simp only [h, ↓upd_eq, ↓envL_cons, Go.Ab.W0, Go.Ab.WD, Go.Ab.WE, if_true, if_false, reduceIte, Nat.reduceEqDiff, Nat.reduceAdd, Nat.reduceLT, Nat.reduceLeDiff, reduceCtorEq, Nat.reduceMul, implies_true, forall_eq_or_imp, forall_eq, Nat.reducePow, W1, W1B, hlt, hg, e1, List.length_map]
      · have e1 : ((l.getD i default).1 == t.num) = false := by simpa using e
        rw [if_neg e] at hr
        have h := True.intro
        repeat' (first
         | (with_reducible first | refine goIf_b ?_ ?_ | refine goIf_n ?_ ?_ | refine goIf_d ?_ ?_ | refine goIf_split ?_ ?_ | refine goGb_b ?_ ?_ | refine goGb_n ?_ ?_ | refine goGb_d ?_ ?_ | refine goGb_split ?_ ?_ | refine goDGb_b ?_ ?_ | refine goDGb_n ?_ ?_ | refine goDGb_d ?_ ?_ | refine goDGb_split ?_ ?_) <;> intro h
         | refine go_draw (id := 5) C_ok mixed 0 Try.f56.ntmps rfl (by kernel_rfl) (by decide) ?_
         | refine go_draw (id := 12) C_ok mixed 0 Try.f56.ntmps rfl (by kernel_rfl) (by decide) ?_
         | skip) <;> simp only [h, ↓upd_eq, ↓envL_cons, Go.Ab.W0, Go.Ab.WD, Go.Ab.WE, if_true, if_false, reduceIte, Nat.reduceEqDiff, Nat.reduceAdd, Nat.reduceLT, Nat.reduceLeDiff, reduceCtorEq, Nat.reduceMul, implies_true, forall_eq_or_imp, forall_eq, Nat.reducePow, W1, W1B, hlt, mapB_get hlt, e1, List.length_map]
        refine ⟨i + 1, ⟨hlt, hr⟩, by omega, weak_drop rfl rfl rfl rfl ?_ ?_ ?_⟩
        all_goals simp only [List.forall_mem_cons, mem_nil_all, frz_app, ↓upd_eq, ↓envL_cons, Nat.reduceEqDiff, if_true, if_false, reduceIte, true_and, and_true, and_self, true_or, or_true, implies_true, List.not_mem_nil, false_implies, AV.bel, AV.belL, AObj.bel, AV.norm, AV.normL, Bool.and_true, Bool.true_and, decide_true, decide_eq_true_eq, List.length_cons, List.length_nil, Nat.zero_add, Nat.reduceAdd, Nat.lt_add_one, Nat.lt_add_right_iff_pos, Nat.zero_lt_succ, Nat.zero_lt_one, Nat.reduceLT, List.take_succ_cons, List.take_zero, wrap_succ hlt hmax, map_bel, mapB_bel, AV.belL, List.length_map]
    · rw [List.drop_of_length_le (by omega), lookB] at hr
      have e2 : rputT l t = t := by rw [rputT_eq, if_pos h6, ← hr]
      rw [e2]
      have h := True.intro
      repeat' (first
       | (with_reducible first | refine goIf_b ?_ ?_ | refine goIf_n ?_ ?_ | refine goIf_d ?_ ?_ | refine goIf_split ?_ ?_ | refine goGb_b ?_ ?_ | refine goGb_n ?_ ?_ | refine goGb_d ?_ ?_ | refine goGb_split ?_ ?_ | refine goDGb_b ?_ ?_ | refine goDGb_n ?_ ?_ | refine goDGb_d ?_ ?_ | refine goDGb_split ?_ ?_) <;> intro h
       | refine go_draw (id := 5) C_ok mixed 0 Try.f56.ntmps rfl (by kernel_rfl) (by decide) ?_
       | refine go_draw (id := 12) C_ok mixed 0 Try.f56.ntmps rfl (by kernel_rfl) (by decide) ?_
       | skip) <;> simp only [h, ↓upd_eq, ↓envL_cons, Go.Ab.W0, Go.Ab.WD, Go.Ab.WE, if_true, if_false, reduceIte, Nat.reduceEqDiff, Nat.reduceAdd, Nat.reduceLT, Nat.reduceLeDiff, reduceCtorEq, Nat.reduceMul, implies_true, forall_eq_or_imp, forall_eq, Nat.reducePow, W1, W1B, hlt, List.length_map]
  · have e6 : (t.kind == 6) = false := by simp [h6]
    refine pcalls_text C_ok Try.func56 rfl (by decide) (Nat.le_of_ble_eq_true rfl) (by decide) (emb_bel _ _) fun ok H => ?_
    rw [Try.results56]
    have hmax : t.kids.length ≤ maxLen := (emb_okay ok.1).1
    have h := True.intro
    repeat' (first
     | (with_reducible first | refine goIf_b ?_ ?_ | refine goIf_n ?_ ?_ | refine goIf_d ?_ ?_ | refine goIf_split ?_ ?_ | refine goGb_b ?_ ?_ | refine goGb_n ?_ ?_ | refine goGb_d ?_ ?_ | refine goGb_split ?_ ?_ | refine goDGb_b ?_ ?_ | refine goDGb_n ?_ ?_ | refine goDGb_d ?_ ?_ | refine goDGb_split ?_ ?_) <;> intro h
     | refine go_draw (id := 5) C_ok mixed 0 Try.f56.ntmps rfl (by kernel_rfl) (by decide) ?_
     | refine go_draw (id := 12) C_ok mixed 0 Try.f56.ntmps rfl (by kernel_rfl) (by decide) ?_
     | skip) <;> simp only [h, ↓upd_eq, ↓envL_cons, Go.Ab.W0, Go.Ab.WD, Go.Ab.WE, if_true, if_false, reduceIte, Nat.reduceEqDiff, Nat.reduceAdd, Nat.reduceLT, Nat.reduceLeDiff, reduceCtorEq, Nat.reduceMul, implies_true, forall_eq_or_imp, forall_eq, Nat.reducePow, W1, W1B, e6]
    have hlen := length_lt_nodes t
    have hroom : ∀ i, i < t.kids.length → ((i + 1) * 40 ≤ 140737488355328) = True := fun i h => by simp only [eq_iff_iff, iff_true]; omega
    have hroom2 : ∀ i, i < t.kids.length → (i + 1 ≤ 9223372036854775807) = True := fun i h => by simp only [eq_iff_iff, iff_true]; omega
    have hend : ∀ m, ¬ m < t.kids.length → m ≤ t.kids.length → emb (.mk t.kind 0 ((List.range m).map fun i => rputT l (t.kid i))) = emb (rputT l t) := fun m h1 h2 => by
      obtain rfl : m = t.kids.length := by omega
      rw [rputT_eq, if_neg h6, range_map_kids']
    refine aloop_trim [7, 1, 2, 4, 6] ?_
    simp only [List.map_cons, List.map_nil, ↓upd_eq, ↓envL_cons, Go.Ab.W0, Go.Ab.WD, Go.Ab.WE, if_true, if_false, reduceIte, Nat.reduceEqDiff, Nat.reduceAdd, Nat.reduceLT, Nat.reduceLeDiff, reduceCtorEq, Nat.reduceMul, implies_true, forall_eq_or_imp, forall_eq, Nat.reducePow, W1, W1B]
    refine goLoopP 1 2 (fun i : Nat => [(7, .int .i64 i)]) (fun i => match i with
        | 0 => [.box [.int .i64 t.kind, .int .i64 0,.sl [] .full]]
        | i + 1 => [.box [.int .i64 t.kind, .int .i64 0,.sl (((List.range (i + 1)).map (fun i => rputT l (t.kid i))).map emb) (.own (H.length + 3))], .tok (i + 1) 3]) (fun i => i ≤ t.kids.length) (fun i => t.kids.length - i) C_ok 0 rfl rfl (Nat.zero_le _) (by decide) ?_
    rintro (_ | i) hi
    · simp only [List.drop_succ_cons, List.drop_zero, List.cons_append, List.nil_append, List.take_succ_cons, List.take_zero]
      simp only [↓upd_eq, ↓envL_cons, Go.Ab.W0, Go.Ab.WD, Go.Ab.WE, if_true, if_false, reduceIte, Nat.reduceEqDiff, Nat.reduceAdd, Nat.reduceLT, Nat.reduceLeDiff, reduceCtorEq, Nat.reduceMul, implies_true, forall_eq_or_imp, forall_eq, Nat.reducePow, W1, W1B]
      refine goIf_d (fun hlt => ?_) (fun hlt => ?_)
      · have h := True.intro
        repeat' (first
         | (with_reducible first | refine goIf_b ?_ ?_ | refine goIf_n ?_ ?_ | refine goIf_d ?_ ?_ | refine goIf_split ?_ ?_ | refine goGb_b ?_ ?_ | refine goGb_n ?_ ?_ | refine goGb_d ?_ ?_ | refine goGb_split ?_ ?_ | refine goDGb_b ?_ ?_ | refine goDGb_n ?_ ?_ | refine goDGb_d ?_ ?_ | refine goDGb_split ?_ ?_) <;> intro h
         | ((first | refine goCall_norm ?_ | refine goDCall_norm ?_); simp only [AV.norm, AV.normL, W2, W2B, hlt, map_emb_kid hlt, hroom 0 hlt, hroom2 0 hlt]; first | refine goCall_p (ih _ (kid_mem hlt)) (.inl rfl) ?_ | refine goDCall_p (ih _ (kid_mem hlt)) (.inl rfl) ?_)
         | refine go_draw (id := 5) C_ok mixed 0 Try.f56.ntmps rfl (by kernel_rfl) (by decide) ?_
         | refine go_draw (id := 12) C_ok mixed 0 Try.f56.ntmps rfl (by kernel_rfl) (by decide) ?_
         | skip) <;> simp only [h, ↓upd_eq, ↓envL_cons, Go.Ab.W0, Go.Ab.WD, Go.Ab.WE, if_true, if_false, reduceIte, Nat.reduceEqDiff, Nat.reduceAdd, Nat.reduceLT, Nat.reduceLeDiff, reduceCtorEq, Nat.reduceMul, implies_true, forall_eq_or_imp, forall_eq, Nat.reducePow, W1, W1B, hlt, map_emb_kid hlt, hroom 0 hlt, hroom2 0 hlt]
        all_goals (refine ⟨0 + 1, hlt, by omega, weak_drop rfl rfl rfl ?_ ?_ ?_ ?_⟩ <;> (try simp only [List.forall_mem_cons, mem_nil_all, frz_app, ↓upd_eq, ↓envL_cons, Nat.reduceEqDiff, if_true, if_false, reduceIte, true_and, and_true, and_self, true_or, or_true, implies_true, List.not_mem_nil, false_implies, AV.bel, AV.belL, AObj.bel, AV.norm, AV.normL, Bool.and_true, Bool.true_and, decide_true, decide_eq_true_eq, List.length_cons, List.length_nil, Nat.zero_add, Nat.reduceAdd, Nat.lt_add_one, Nat.lt_add_right_iff_pos, Nat.zero_lt_succ, Nat.zero_lt_one, Nat.reduceLT, List.take_succ_cons, List.take_zero, wrap_succ hlt hmax, map_bel, mapB_bel, map_norm, AV.belL, List.length_map]) <;> (try simp [List.range_succ, emb_cells]) <;> (try omega))
      · simp only [↓upd_eq, ↓envL_cons, Go.Ab.W0, Go.Ab.WD, Go.Ab.WE, if_true, if_false, reduceIte, Nat.reduceEqDiff, Nat.reduceAdd, Nat.reduceLT, Nat.reduceLeDiff, reduceCtorEq, Nat.reduceMul, implies_true, forall_eq_or_imp, forall_eq, Nat.reducePow, W1, W1B]
        exact hend 0 hlt hi
    · simp only [List.drop_succ_cons, List.drop_zero, List.cons_append, List.nil_append, List.take_succ_cons, List.take_zero]
      simp only [↓upd_eq, ↓envL_cons, Go.Ab.W0, Go.Ab.WD, Go.Ab.WE, if_true, if_false, reduceIte, Nat.reduceEqDiff, Nat.reduceAdd, Nat.reduceLT, Nat.reduceLeDiff, reduceCtorEq, Nat.reduceMul, implies_true, forall_eq_or_imp, forall_eq, Nat.reducePow, W1, W1B]
      refine goIf_d (fun hlt => ?_) (fun hlt => ?_)
      · have h := True.intro
        repeat' (first
         | (with_reducible first | refine goIf_b ?_ ?_ | refine goIf_n ?_ ?_ | refine goIf_d ?_ ?_ | refine goIf_split ?_ ?_ | refine goGb_b ?_ ?_ | refine goGb_n ?_ ?_ | refine goGb_d ?_ ?_ | refine goGb_split ?_ ?_ | refine goDGb_b ?_ ?_ | refine goDGb_n ?_ ?_ | refine goDGb_d ?_ ?_ | refine goDGb_split ?_ ?_) <;> intro h
         | ((first | refine goCall_norm ?_ | refine goDCall_norm ?_); simp only [AV.norm, AV.normL, W2, W2B, hlt, map_emb_kid hlt, hroom (i + 1) hlt, hroom2 (i + 1) hlt]; first | refine goCall_p (ih _ (kid_mem hlt)) (.inl rfl) ?_ | refine goDCall_p (ih _ (kid_mem hlt)) (.inl rfl) ?_)
         | refine go_draw (id := 5) C_ok mixed 0 Try.f56.ntmps rfl (by kernel_rfl) (by decide) ?_
         | refine go_draw (id := 12) C_ok mixed 0 Try.f56.ntmps rfl (by kernel_rfl) (by decide) ?_
         | skip) <;> simp only [h, ↓upd_eq, ↓envL_cons, Go.Ab.W0, Go.Ab.WD, Go.Ab.WE, if_true, if_false, reduceIte, Nat.reduceEqDiff, Nat.reduceAdd, Nat.reduceLT, Nat.reduceLeDiff, reduceCtorEq, Nat.reduceMul, implies_true, forall_eq_or_imp, forall_eq, Nat.reducePow, W1, W1B, hlt, map_emb_kid hlt, hroom (i + 1) hlt, hroom2 (i + 1) hlt]
        all_goals (refine ⟨i + 1 + 1, hlt, by omega, weak_drop rfl rfl rfl ?_ ?_ ?_ ?_⟩ <;> (try simp only [List.forall_mem_cons, mem_nil_all, frz_app, ↓upd_eq, ↓envL_cons, Nat.reduceEqDiff, if_true, if_false, reduceIte, true_and, and_true, and_self, true_or, or_true, implies_true, List.not_mem_nil, false_implies, AV.bel, AV.belL, AObj.bel, AV.norm, AV.normL, Bool.and_true, Bool.true_and, decide_true, decide_eq_true_eq, List.length_cons, List.length_nil, Nat.zero_add, Nat.reduceAdd, Nat.lt_add_one, Nat.lt_add_right_iff_pos, Nat.zero_lt_succ, Nat.zero_lt_one, Nat.reduceLT, List.take_succ_cons, List.take_zero, wrap_succ hlt hmax, map_bel, mapB_bel, map_norm, AV.belL, List.length_map]) <;> (try simp [List.range_succ, emb_cells]) <;> (try omega))
      · simp only [↓upd_eq, ↓envL_cons, Go.Ab.W0, Go.Ab.WD, Go.Ab.WE, if_true, if_false, reduceIte, Nat.reduceEqDiff, Nat.reduceAdd, Nat.reduceLT, Nat.reduceLeDiff, reduceCtorEq, Nat.reduceMul, implies_true, forall_eq_or_imp, forall_eq, Nat.reducePow, W1, W1B]
        exact hend (i + 1) hlt hi
theorem rput_ok (l : List Bd) (t : Ty) (hs : nodes t ≤ 1048576) : PCalls Try.prog 56 [emb t, .sl (l.map embB) .no] (emb (rputT l t)) :=
  Ty.ind (p := fun t => nodes t ≤ 1048576 → PCalls Try.prog 56 [emb t, .sl (l.map embB) .no] (emb (rputT l t))) (fun t ih hs => rput_step l t hs fun x hx => ih x hx (by have := nodes_kid hx; omega)) t hs

/-! With trees. -/
noncomputable def sigB (l : List Bd) (n : Int) : T := match lookB l n with | some t => tOf t | none => .var n
theorem rput_put {l : List Bd} (hl : ∀ n t, lookB l n = some t → right t = true) : ∀ x : T, rputT l x.ty = (putS (sigB l) x).ty := by
  intro x
  induction x with
  | var n =>
    simp only [T.ty, rputT_eq, Ty.kind_mk, Ty.num_mk, if_true, putS, sigB]
    cases e : lookB l n with
    | none => rfl
    | some t =>
      obtain ⟨y, rfl, _⟩ := T.of_right' (hl n t e)
      simp only [tOf_ty]
  | base k => have := base_ne k; simp only [T.ty, rputT_eq, Ty.kind_mk, putS, this.2.1, if_false, Ty.kids_mk, List.map_nil]
  | dyn => simp [T.ty, rputT_eq, Ty.kind_mk, putS, Ty.kids_mk]
  | pair a b ih1 ih2 => rw [T.ty, rputT_eq]; simp [Ty.kind_mk, putS, T.ty, Ty.kids_mk, ih1, ih2]
  | fn a b ih1 ih2 => rw [T.ty, rputT_eq]; simp [Ty.kind_mk, putS, T.ty, Ty.kids_mk, ih1, ih2]
  | list a ih1 => rw [T.ty, rputT_eq]; simp [Ty.kind_mk, putS, T.ty, Ty.kids_mk, ih1]
theorem putS_ok {σ : Int → T} (h : ∀ n, (T.var n).ok = true → (σ n).ok = true) : ∀ x : T, x.ok = true → (putS σ x).ok = true := by
  intro x
  induction x <;> intro hx <;> simp_all [putS, T.ok]

def plainS (c : Bool) : T → T
  | .dyn => .base 3
  | .var n => if c = true then .base 2 else .var n
  | .pair a b => .pair (plainS c a) (plainS c b)
  | .list a => .list (plainS c a)
  | .fn a b => .fn (plainS c a) (plainS c b)
  | .base k => .base k
theorem plainS_ok (c : Bool) : ∀ x : T, x.ok = true → (plainS c x).ok = true := by
  intro x
  induction x <;> intro hx <;> cases c <;> simp_all [plainS, T.ok]
theorem plainS_closed : ∀ x : T, (plainS true x).closed = true := by
  intro x
  induction x <;> simp_all [plainS, T.closed]
theorem plain_ok (c : Bool) : ∀ x : T, PCalls Try.prog 159 [emb x.ty, .bool c] (emb (plainS c x).ty) := by
  intro x
  induction x with
  | dyn =>
    show PCalls _ _ [emb (.mk 5 0 []), .bool c] (emb (leafT 4))
    refine pcalls_text C_ok Try.func159 rfl (by decide) (Nat.le_of_ble_eq_true rfl) (by decide) (emb_bel _ _) fun ok H => ?_
    rw [Try.results159]
    have h := True.intro
    repeat' (first
     | (with_reducible first | refine goIf_b ?_ ?_ | refine goIf_n ?_ ?_ | refine goIf_d ?_ ?_ | refine goIf_split ?_ ?_ | refine goGb_b ?_ ?_ | refine goGb_n ?_ ?_ | refine goGb_d ?_ ?_ | refine goGb_split ?_ ?_ | refine goDGb_b ?_ ?_ | refine goDGb_n ?_ ?_ | refine goDGb_d ?_ ?_ | refine goDGb_split ?_ ?_) <;> intro h
     | ((first | refine goCall_norm ?_ | refine goDCall_norm ?_); simp only [AV.norm, AV.normL, W2, W2B, Go.Ab.W3, Int.reduceAdd, Int.reduceLT, Int.reduceToNat, Int.reduceBEq, Int.reduceBNe, Int.reduceLE]; first | refine goCall_p (leaf_ok _) (.inl rfl) ?_ | refine goDCall_p (leaf_ok _) (.inl rfl) ?_)
     | refine go_draw (id := 9) C_ok mixed 0 Try.f159.ntmps rfl (by kernel_rfl) (by decide) ?_
     | refine goRound ?_ C_ok Try.f159.ntmps rfl (by decide)
     | skip) <;> simp only [h, ↓upd_eq, ↓envL_cons, Go.Ab.W0, Go.Ab.WD, Go.Ab.WE, if_true, if_false, reduceIte, Nat.reduceEqDiff, Nat.reduceAdd, Nat.reduceLT, Nat.reduceLeDiff, reduceCtorEq, Nat.reduceMul, implies_true, forall_eq_or_imp, forall_eq, Nat.reducePow, W1, W1B, Go.Ab.W3, Int.reduceAdd, Int.reduceLT, Int.reduceToNat, Int.reduceBEq, Int.reduceBNe, Int.reduceLE, cutNormal_normal]
  | var n =>
    cases c with
    | true =>
      show PCalls _ _ [emb (.mk 6 n []), .bool true] (emb (leafT 3))
      refine pcalls_text C_ok Try.func159 rfl (by decide) (Nat.le_of_ble_eq_true rfl) (by decide) (emb_bel _ _) fun ok H => ?_
      rw [Try.results159]
      have h := True.intro
      repeat' (first
       | (with_reducible first | refine goIf_b ?_ ?_ | refine goIf_n ?_ ?_ | refine goIf_d ?_ ?_ | refine goIf_split ?_ ?_ | refine goGb_b ?_ ?_ | refine goGb_n ?_ ?_ | refine goGb_d ?_ ?_ | refine goGb_split ?_ ?_ | refine goDGb_b ?_ ?_ | refine goDGb_n ?_ ?_ | refine goDGb_d ?_ ?_ | refine goDGb_split ?_ ?_) <;> intro h
       | ((first | refine goCall_norm ?_ | refine goDCall_norm ?_); simp only [AV.norm, AV.normL, W2, W2B, Go.Ab.W3, Int.reduceAdd, Int.reduceLT, Int.reduceToNat, Int.reduceBEq, Int.reduceBNe, Int.reduceLE]; first | refine goCall_p (leaf_ok _) (.inl rfl) ?_ | refine goDCall_p (leaf_ok _) (.inl rfl) ?_)
       | refine go_draw (id := 9) C_ok mixed 0 Try.f159.ntmps rfl (by kernel_rfl) (by decide) ?_
       | refine goRound ?_ C_ok Try.f159.ntmps rfl (by decide)
       | skip) <;> simp only [h, ↓upd_eq, ↓envL_cons, Go.Ab.W0, Go.Ab.WD, Go.Ab.WE, if_true, if_false, reduceIte, Nat.reduceEqDiff, Nat.reduceAdd, Nat.reduceLT, Nat.reduceLeDiff, reduceCtorEq, Nat.reduceMul, implies_true, forall_eq_or_imp, forall_eq, Nat.reducePow, W1, W1B, Go.Ab.W3, Int.reduceAdd, Int.reduceLT, Int.reduceToNat, Int.reduceBEq, Int.reduceBNe, Int.reduceLE, cutNormal_normal]
    | false =>
      show PCalls _ _ [emb (.mk 6 n []), .bool false] (emb (.mk 6 n []))
      refine pcalls_text C_ok Try.func159 rfl (by decide) (Nat.le_of_ble_eq_true rfl) (by decide) (emb_bel _ _) fun ok H => ?_
      rw [Try.results159]
      have h := True.intro
      repeat' (first
       | (with_reducible first | refine goIf_b ?_ ?_ | refine goIf_n ?_ ?_ | refine goIf_d ?_ ?_ | refine goIf_split ?_ ?_ | refine goGb_b ?_ ?_ | refine goGb_n ?_ ?_ | refine goGb_d ?_ ?_ | refine goGb_split ?_ ?_ | refine goDGb_b ?_ ?_ | refine goDGb_n ?_ ?_ | refine goDGb_d ?_ ?_ | refine goDGb_split ?_ ?_) <;> intro h
       | refine go_draw (id := 9) C_ok mixed 0 Try.f159.ntmps rfl (by kernel_rfl) (by decide) ?_
       | refine goRound ?_ C_ok Try.f159.ntmps rfl (by decide)
       | skip) <;> simp only [h, ↓upd_eq, ↓envL_cons, Go.Ab.W0, Go.Ab.WD, Go.Ab.WE, if_true, if_false, reduceIte, Nat.reduceEqDiff, Nat.reduceAdd, Nat.reduceLT, Nat.reduceLeDiff, reduceCtorEq, Nat.reduceMul, implies_true, forall_eq_or_imp, forall_eq, Nat.reducePow, W1, W1B, Go.Ab.W3, Int.reduceAdd, Int.reduceLT, Int.reduceToNat, Int.reduceBEq, Int.reduceBNe, Int.reduceLE, cutNormal_normal]
  | base k =>
    show PCalls _ _ [emb (.mk (k.val + 1) 0 []), .bool c] (emb (.mk (k.val + 1) 0 []))
    have h1 := base_ne k
    have e1 : (((k.val : Int) + 1) == 5) = false := by simp [h1]
    have e2 : (((k.val : Int) + 1) == 6) = false := by simp [h1]
    generalize ((k.val : Int) + 1) = m at *
    refine pcalls_text C_ok Try.func159 rfl (by decide) (Nat.le_of_ble_eq_true rfl) (by decide) (emb_bel _ _) fun ok H => ?_
    rw [Try.results159]
    have h := True.intro
    repeat' (first
     | (with_reducible first | refine goIf_b ?_ ?_ | refine goIf_n ?_ ?_ | refine goIf_d ?_ ?_ | refine goIf_split ?_ ?_ | refine goGb_b ?_ ?_ | refine goGb_n ?_ ?_ | refine goGb_d ?_ ?_ | refine goGb_split ?_ ?_ | refine goDGb_b ?_ ?_ | refine goDGb_n ?_ ?_ | refine goDGb_d ?_ ?_ | refine goDGb_split ?_ ?_) <;> intro h
     | refine go_draw (id := 9) C_ok mixed 0 Try.f159.ntmps rfl (by kernel_rfl) (by decide) ?_
     | refine goRound ?_ C_ok Try.f159.ntmps rfl (by decide)
     | skip) <;> simp only [h, ↓upd_eq, ↓envL_cons, Go.Ab.W0, Go.Ab.WD, Go.Ab.WE, if_true, if_false, reduceIte, Nat.reduceEqDiff, Nat.reduceAdd, Nat.reduceLT, Nat.reduceLeDiff, reduceCtorEq, Nat.reduceMul, implies_true, forall_eq_or_imp, forall_eq, Nat.reducePow, W1, W1B, Go.Ab.W3, Int.reduceAdd, Int.reduceLT, Int.reduceToNat, Int.reduceBEq, Int.reduceBNe, Int.reduceLE, e1, e2, cutNormal_normal]
  | pair x y ih1 ih2 =>
    have e : (plainS c (.pair x y)).ty = .mk 7 0 [(plainS c x).ty, (plainS c y).ty] := rfl
    rw [e]
    generalize (plainS c x).ty = x' at *
    generalize (plainS c y).ty = y' at *
    simp only [T.ty]
    refine pcalls_text C_ok Try.func159 rfl (by decide) (Nat.le_of_ble_eq_true rfl) (by decide) (emb_bel _ _) fun ok H => ?_
    rw [Try.results159]
    have h := True.intro
    repeat' (first
     | (with_reducible first | refine goIf_b ?_ ?_ | refine goIf_n ?_ ?_ | refine goIf_d ?_ ?_ | refine goIf_split ?_ ?_ | refine goGb_b ?_ ?_ | refine goGb_n ?_ ?_ | refine goGb_d ?_ ?_ | refine goGb_split ?_ ?_ | refine goDGb_b ?_ ?_ | refine goDGb_n ?_ ?_ | refine goDGb_d ?_ ?_ | refine goDGb_split ?_ ?_) <;> intro h
     | ((first | refine goCall_norm ?_ | refine goDCall_norm ?_); simp only [AV.norm, AV.normL, W2, W2B, Go.Ab.W3, Int.reduceAdd, Int.reduceLT, Int.reduceToNat, Int.reduceBEq, Int.reduceBNe, Int.reduceLE]; first | refine goCall_p (ih1) (.inl rfl) ?_ | refine goCall_p (ih2) (.inl rfl) ?_ | refine goDCall_p (ih1) (.inl rfl) ?_ | refine goDCall_p (ih2) (.inl rfl) ?_)
     | refine go_draw (id := 9) C_ok mixed 0 Try.f159.ntmps rfl (by kernel_rfl) (by decide) ?_
     | refine goRound ?_ C_ok Try.f159.ntmps rfl (by decide)
     | skip) <;> simp only [h, ↓upd_eq, ↓envL_cons, Go.Ab.W0, Go.Ab.WD, Go.Ab.WE, if_true, if_false, reduceIte, Nat.reduceEqDiff, Nat.reduceAdd, Nat.reduceLT, Nat.reduceLeDiff, reduceCtorEq, Nat.reduceMul, implies_true, forall_eq_or_imp, forall_eq, Nat.reducePow, W1, W1B, Go.Ab.W3, Int.reduceAdd, Int.reduceLT, Int.reduceToNat, Int.reduceBEq, Int.reduceBNe, Int.reduceLE, cutNormal_normal]
  | fn x y ih1 ih2 =>
    have e : (plainS c (.fn x y)).ty = .mk 9 0 [(plainS c x).ty, (plainS c y).ty] := rfl
    rw [e]
    generalize (plainS c x).ty = x' at *
    generalize (plainS c y).ty = y' at *
    simp only [T.ty]
    refine pcalls_text C_ok Try.func159 rfl (by decide) (Nat.le_of_ble_eq_true rfl) (by decide) (emb_bel _ _) fun ok H => ?_
    rw [Try.results159]
    have h := True.intro
    repeat' (first
     | (with_reducible first | refine goIf_b ?_ ?_ | refine goIf_n ?_ ?_ | refine goIf_d ?_ ?_ | refine goIf_split ?_ ?_ | refine goGb_b ?_ ?_ | refine goGb_n ?_ ?_ | refine goGb_d ?_ ?_ | refine goGb_split ?_ ?_ | refine goDGb_b ?_ ?_ | refine goDGb_n ?_ ?_ | refine goDGb_d ?_ ?_ | refine goDGb_split ?_ ?_) <;> intro h
     | ((first | refine goCall_norm ?_ | refine goDCall_norm ?_); simp only [AV.norm, AV.normL, W2, W2B, Go.Ab.W3, Int.reduceAdd, Int.reduceLT, Int.reduceToNat, Int.reduceBEq, Int.reduceBNe, Int.reduceLE]; first | refine goCall_p (ih1) (.inl rfl) ?_ | refine goCall_p (ih2) (.inl rfl) ?_ | refine goDCall_p (ih1) (.inl rfl) ?_ | refine goDCall_p (ih2) (.inl rfl) ?_)
     | refine go_draw (id := 9) C_ok mixed 0 Try.f159.ntmps rfl (by kernel_rfl) (by decide) ?_
     | refine goRound ?_ C_ok Try.f159.ntmps rfl (by decide)
     | skip) <;> simp only [h, ↓upd_eq, ↓envL_cons, Go.Ab.W0, Go.Ab.WD, Go.Ab.WE, if_true, if_false, reduceIte, Nat.reduceEqDiff, Nat.reduceAdd, Nat.reduceLT, Nat.reduceLeDiff, reduceCtorEq, Nat.reduceMul, implies_true, forall_eq_or_imp, forall_eq, Nat.reducePow, W1, W1B, Go.Ab.W3, Int.reduceAdd, Int.reduceLT, Int.reduceToNat, Int.reduceBEq, Int.reduceBNe, Int.reduceLE, cutNormal_normal]
  | list x ih1 =>
    have e : (plainS c (.list x)).ty = .mk 8 0 [(plainS c x).ty] := rfl
    rw [e]
    generalize (plainS c x).ty = x' at *
    simp only [T.ty]
    refine pcalls_text C_ok Try.func159 rfl (by decide) (Nat.le_of_ble_eq_true rfl) (by decide) (emb_bel _ _) fun ok H => ?_
    rw [Try.results159]
    have h := True.intro
    repeat' (first
     | (with_reducible first | refine goIf_b ?_ ?_ | refine goIf_n ?_ ?_ | refine goIf_d ?_ ?_ | refine goIf_split ?_ ?_ | refine goGb_b ?_ ?_ | refine goGb_n ?_ ?_ | refine goGb_d ?_ ?_ | refine goGb_split ?_ ?_ | refine goDGb_b ?_ ?_ | refine goDGb_n ?_ ?_ | refine goDGb_d ?_ ?_ | refine goDGb_split ?_ ?_) <;> intro h
     | ((first | refine goCall_norm ?_ | refine goDCall_norm ?_); simp only [AV.norm, AV.normL, W2, W2B, Go.Ab.W3, Int.reduceAdd, Int.reduceLT, Int.reduceToNat, Int.reduceBEq, Int.reduceBNe, Int.reduceLE]; first | refine goCall_p (ih1) (.inl rfl) ?_ | refine goDCall_p (ih1) (.inl rfl) ?_)
     | refine go_draw (id := 9) C_ok mixed 0 Try.f159.ntmps rfl (by kernel_rfl) (by decide) ?_
     | refine goRound ?_ C_ok Try.f159.ntmps rfl (by decide)
     | skip) <;> simp only [h, ↓upd_eq, ↓envL_cons, Go.Ab.W0, Go.Ab.WD, Go.Ab.WE, if_true, if_false, reduceIte, Nat.reduceEqDiff, Nat.reduceAdd, Nat.reduceLT, Nat.reduceLeDiff, reduceCtorEq, Nat.reduceMul, implies_true, forall_eq_or_imp, forall_eq, Nat.reducePow, W1, W1B, Go.Ab.W3, Int.reduceAdd, Int.reduceLT, Int.reduceToNat, Int.reduceBEq, Int.reduceBNe, Int.reduceLE, cutNormal_normal]

end Go.Proofs.Ytajdipeebpmifaa
end

section
/- Walks: types for all variables of a type; coercions with the next label. No condition. -/
set_option linter.unusedSimpArgs false
set_option linter.unusedVariables false
set_option maxHeartbeats 4000000
set_option maxRecDepth 100000
namespace Go.Proofs.Ytajdipeebpmifaa
open Go Go.Ab
attribute [local irreducible] PCalls ACalls CallK GoCall GoDCall GoIf GoGb GoDGb GoO GoD GoX GoDX GoG GoDG GoGv GoDGv Go ALoop

theorem turned_ok : ∀ k : K, k.ok = true → PCalls Try.prog 57 [embC k.co] (embC k.turn.co) := by
  intro k
  induction k with
  | id =>
    intro _
    show PCalls _ _ [embC (.mk 1 0 0 false [])] (embC (.mk 1 0 0 false []))
    refine pcalls_text C_ok Try.func57 rfl (by decide) (Nat.le_of_ble_eq_true rfl) (by decide) (embC_bel _ _) fun ok H => ?_
    rw [Try.results57]
    have h := True.intro
    repeat' (first
     | (with_reducible first | refine goIf_b ?_ ?_ | refine goIf_n ?_ ?_ | refine goIf_d ?_ ?_ | refine goIf_split ?_ ?_ | refine goGb_b ?_ ?_ | refine goGb_n ?_ ?_ | refine goGb_d ?_ ?_ | refine goGb_split ?_ ?_ | refine goDGb_b ?_ ?_ | refine goDGb_n ?_ ?_ | refine goDGb_d ?_ ?_ | refine goDGb_split ?_ ?_) <;> intro h
     | refine goRound ?_ C_ok Try.f57.ntmps rfl (by decide)
     | skip) <;> simp only [h, ↓upd_eq, ↓envL_cons, Go.Ab.W0, Go.Ab.WD, Go.Ab.WE, if_true, if_false, reduceIte, Nat.reduceEqDiff, Nat.reduceAdd, Nat.reduceLT, Nat.reduceLeDiff, reduceCtorEq, Nat.reduceMul, implies_true, forall_eq_or_imp, forall_eq, Nat.reducePow, W1, W1C, W1B, Go.Ab.W3, Int.reduceAdd, Int.reduceLT, Int.reduceToNat, Int.reduceBEq, Int.reduceBNe, Int.reduceLE, cutNormal_normal]
  | fail l n =>
    intro _
    show PCalls _ _ [embC (.mk 7 0 l n [])] (embC (.mk 7 0 l n []))
    refine pcalls_text C_ok Try.func57 rfl (by decide) (Nat.le_of_ble_eq_true rfl) (by decide) (embC_bel _ _) fun ok H => ?_
    rw [Try.results57]
    have h := True.intro
    repeat' (first
     | (with_reducible first | refine goIf_b ?_ ?_ | refine goIf_n ?_ ?_ | refine goIf_d ?_ ?_ | refine goIf_split ?_ ?_ | refine goGb_b ?_ ?_ | refine goGb_n ?_ ?_ | refine goGb_d ?_ ?_ | refine goGb_split ?_ ?_ | refine goDGb_b ?_ ?_ | refine goDGb_n ?_ ?_ | refine goDGb_d ?_ ?_ | refine goDGb_split ?_ ?_) <;> intro h
     | refine goRound ?_ C_ok Try.f57.ntmps rfl (by decide)
     | skip) <;> simp only [h, ↓upd_eq, ↓envL_cons, Go.Ab.W0, Go.Ab.WD, Go.Ab.WE, if_true, if_false, reduceIte, Nat.reduceEqDiff, Nat.reduceAdd, Nat.reduceLT, Nat.reduceLeDiff, reduceCtorEq, Nat.reduceMul, implies_true, forall_eq_or_imp, forall_eq, Nat.reducePow, W1, W1C, W1B, Go.Ab.W3, Int.reduceAdd, Int.reduceLT, Int.reduceToNat, Int.reduceBEq, Int.reduceBNe, Int.reduceLE, cutNormal_normal]
  | fn x y ih1 ih2 =>
    intro h
    simp only [K.ok, Bool.and_eq_true] at h
    replace ih1 := ih1 h.1.1
    replace ih2 := ih2 h.1.2
    simp only [K.co, K.turn] at ih1 ih2 ⊢
    generalize x.turn.co = x' at *
    generalize y.turn.co = y' at *
    refine pcalls_text C_ok Try.func57 rfl (by decide) (Nat.le_of_ble_eq_true rfl) (by decide) (embC_bel _ _) fun ok H => ?_
    rw [Try.results57]
    have h := True.intro
    repeat' (first
     | (with_reducible first | refine goIf_b ?_ ?_ | refine goIf_n ?_ ?_ | refine goIf_d ?_ ?_ | refine goIf_split ?_ ?_ | refine goGb_b ?_ ?_ | refine goGb_n ?_ ?_ | refine goGb_d ?_ ?_ | refine goGb_split ?_ ?_ | refine goDGb_b ?_ ?_ | refine goDGb_n ?_ ?_ | refine goDGb_d ?_ ?_ | refine goDGb_split ?_ ?_) <;> intro h
     | ((first | refine goCall_norm ?_ | refine goDCall_norm ?_); simp only [AV.norm, AV.normL, W2, W2C, W2B, Go.Ab.W3, Int.reduceAdd, Int.reduceLT, Int.reduceToNat, Int.reduceBEq, Int.reduceBNe, Int.reduceLE]; first | refine goCall_p (ih1) (.inl rfl) ?_ | refine goCall_p (ih2) (.inl rfl) ?_ | refine goDCall_p (ih1) (.inl rfl) ?_ | refine goDCall_p (ih2) (.inl rfl) ?_)
     | refine goRound ?_ C_ok Try.f57.ntmps rfl (by decide)
     | skip) <;> simp only [h, ↓upd_eq, ↓envL_cons, Go.Ab.W0, Go.Ab.WD, Go.Ab.WE, if_true, if_false, reduceIte, Nat.reduceEqDiff, Nat.reduceAdd, Nat.reduceLT, Nat.reduceLeDiff, reduceCtorEq, Nat.reduceMul, implies_true, forall_eq_or_imp, forall_eq, Nat.reducePow, W1, W1C, W1B, Go.Ab.W3, Int.reduceAdd, Int.reduceLT, Int.reduceToNat, Int.reduceBEq, Int.reduceBNe, Int.reduceLE, cutNormal_normal]
  | pair x y ih1 ih2 =>
    intro h
    simp only [K.ok, Bool.and_eq_true] at h
    replace ih1 := ih1 h.1.1
    replace ih2 := ih2 h.1.2
    simp only [K.co, K.turn] at ih1 ih2 ⊢
    generalize x.turn.co = x' at *
    generalize y.turn.co = y' at *
    refine pcalls_text C_ok Try.func57 rfl (by decide) (Nat.le_of_ble_eq_true rfl) (by decide) (embC_bel _ _) fun ok H => ?_
    rw [Try.results57]
    have h := True.intro
    repeat' (first
     | (with_reducible first | refine goIf_b ?_ ?_ | refine goIf_n ?_ ?_ | refine goIf_d ?_ ?_ | refine goIf_split ?_ ?_ | refine goGb_b ?_ ?_ | refine goGb_n ?_ ?_ | refine goGb_d ?_ ?_ | refine goGb_split ?_ ?_ | refine goDGb_b ?_ ?_ | refine goDGb_n ?_ ?_ | refine goDGb_d ?_ ?_ | refine goDGb_split ?_ ?_) <;> intro h
     | ((first | refine goCall_norm ?_ | refine goDCall_norm ?_); simp only [AV.norm, AV.normL, W2, W2C, W2B, Go.Ab.W3, Int.reduceAdd, Int.reduceLT, Int.reduceToNat, Int.reduceBEq, Int.reduceBNe, Int.reduceLE]; first | refine goCall_p (ih1) (.inl rfl) ?_ | refine goCall_p (ih2) (.inl rfl) ?_ | refine goDCall_p (ih1) (.inl rfl) ?_ | refine goDCall_p (ih2) (.inl rfl) ?_)
     | refine goRound ?_ C_ok Try.f57.ntmps rfl (by decide)
     | skip) <;> simp only [h, ↓upd_eq, ↓envL_cons, Go.Ab.W0, Go.Ab.WD, Go.Ab.WE, if_true, if_false, reduceIte, Nat.reduceEqDiff, Nat.reduceAdd, Nat.reduceLT, Nat.reduceLeDiff, reduceCtorEq, Nat.reduceMul, implies_true, forall_eq_or_imp, forall_eq, Nat.reducePow, W1, W1C, W1B, Go.Ab.W3, Int.reduceAdd, Int.reduceLT, Int.reduceToNat, Int.reduceBEq, Int.reduceBNe, Int.reduceLE, cutNormal_normal]
  | list x ih1 =>
    intro h
    simp only [K.ok, Bool.and_eq_true] at h
    replace ih1 := ih1 h.1
    simp only [K.co, K.turn] at ih1 ⊢
    generalize x.turn.co = x' at *
    refine pcalls_text C_ok Try.func57 rfl (by decide) (Nat.le_of_ble_eq_true rfl) (by decide) (embC_bel _ _) fun ok H => ?_
    rw [Try.results57]
    have h := True.intro
    repeat' (first
     | (with_reducible first | refine goIf_b ?_ ?_ | refine goIf_n ?_ ?_ | refine goIf_d ?_ ?_ | refine goIf_split ?_ ?_ | refine goGb_b ?_ ?_ | refine goGb_n ?_ ?_ | refine goGb_d ?_ ?_ | refine goGb_split ?_ ?_ | refine goDGb_b ?_ ?_ | refine goDGb_n ?_ ?_ | refine goDGb_d ?_ ?_ | refine goDGb_split ?_ ?_) <;> intro h
     | ((first | refine goCall_norm ?_ | refine goDCall_norm ?_); simp only [AV.norm, AV.normL, W2, W2C, W2B, Go.Ab.W3, Int.reduceAdd, Int.reduceLT, Int.reduceToNat, Int.reduceBEq, Int.reduceBNe, Int.reduceLE]; first | refine goCall_p (ih1) (.inl rfl) ?_ | refine goDCall_p (ih1) (.inl rfl) ?_)
     | refine goRound ?_ C_ok Try.f57.ntmps rfl (by decide)
     | skip) <;> simp only [h, ↓upd_eq, ↓envL_cons, Go.Ab.W0, Go.Ab.WD, Go.Ab.WE, if_true, if_false, reduceIte, Nat.reduceEqDiff, Nat.reduceAdd, Nat.reduceLT, Nat.reduceLeDiff, reduceCtorEq, Nat.reduceMul, implies_true, forall_eq_or_imp, forall_eq, Nat.reducePow, W1, W1C, W1B, Go.Ab.W3, Int.reduceAdd, Int.reduceLT, Int.reduceToNat, Int.reduceBEq, Int.reduceBNe, Int.reduceLE, cutNormal_normal]
  | inj hd x ih1 =>
    intro h
    simp only [K.ok, Bool.and_eq_true] at h
    replace ih1 := ih1 (by simp_all)
    simp only [K.co, K.turn] at ih1 ⊢
    generalize x.turn.co = x' at *
    refine pcalls_text C_ok Try.func57 rfl (by decide) (Nat.le_of_ble_eq_true rfl) (by decide) (embC_bel _ _) fun ok H => ?_
    rw [Try.results57]
    have h := True.intro
    repeat' (first
     | (with_reducible first | refine goIf_b ?_ ?_ | refine goIf_n ?_ ?_ | refine goIf_d ?_ ?_ | refine goIf_split ?_ ?_ | refine goGb_b ?_ ?_ | refine goGb_n ?_ ?_ | refine goGb_d ?_ ?_ | refine goGb_split ?_ ?_ | refine goDGb_b ?_ ?_ | refine goDGb_n ?_ ?_ | refine goDGb_d ?_ ?_ | refine goDGb_split ?_ ?_) <;> intro h
     | ((first | refine goCall_norm ?_ | refine goDCall_norm ?_); simp only [AV.norm, AV.normL, W2, W2C, W2B, Go.Ab.W3, Int.reduceAdd, Int.reduceLT, Int.reduceToNat, Int.reduceBEq, Int.reduceBNe, Int.reduceLE]; first | refine goCall_p (ih1) (.inl rfl) ?_ | refine goDCall_p (ih1) (.inl rfl) ?_)
     | refine goRound ?_ C_ok Try.f57.ntmps rfl (by decide)
     | skip) <;> simp only [h, ↓upd_eq, ↓envL_cons, Go.Ab.W0, Go.Ab.WD, Go.Ab.WE, if_true, if_false, reduceIte, Nat.reduceEqDiff, Nat.reduceAdd, Nat.reduceLT, Nat.reduceLeDiff, reduceCtorEq, Nat.reduceMul, implies_true, forall_eq_or_imp, forall_eq, Nat.reducePow, W1, W1C, W1B, Go.Ab.W3, Int.reduceAdd, Int.reduceLT, Int.reduceToNat, Int.reduceBEq, Int.reduceBNe, Int.reduceLE, cutNormal_normal]
  | proj hd l n x ih1 =>
    intro h
    have hl : labelOK l = true := by simp only [K.ok, Bool.and_eq_true] at h; simp_all
    have hw : IntKind.wrap .i64 (l + 1) = l + 1 := by
      simp only [labelOK, Bool.and_eq_true, decide_eq_true_eq] at hl
      exact wrap_i (by omega) (by omega)
    replace ih1 := ih1 (by simp only [K.ok, Bool.and_eq_true] at h; simp_all)
    simp only [K.co, K.turn] at ih1 ⊢
    generalize x.turn.co = x' at *
    refine pcalls_text C_ok Try.func57 rfl (by decide) (Nat.le_of_ble_eq_true rfl) (by decide) (embC_bel _ _) fun ok H => ?_
    rw [Try.results57]
    have h := True.intro
    repeat' (first
     | (with_reducible first | refine goIf_b ?_ ?_ | refine goIf_n ?_ ?_ | refine goIf_d ?_ ?_ | refine goIf_split ?_ ?_ | refine goGb_b ?_ ?_ | refine goGb_n ?_ ?_ | refine goGb_d ?_ ?_ | refine goGb_split ?_ ?_ | refine goDGb_b ?_ ?_ | refine goDGb_n ?_ ?_ | refine goDGb_d ?_ ?_ | refine goDGb_split ?_ ?_) <;> intro h
     | ((first | refine goCall_norm ?_ | refine goDCall_norm ?_); simp only [AV.norm, AV.normL, W2, W2C, W2B, Go.Ab.W3, Int.reduceAdd, Int.reduceLT, Int.reduceToNat, Int.reduceBEq, Int.reduceBNe, Int.reduceLE, hw]; first | refine goCall_p (ih1) (.inl rfl) ?_ | refine goDCall_p (ih1) (.inl rfl) ?_)
     | refine goRound ?_ C_ok Try.f57.ntmps rfl (by decide)
     | skip) <;> simp only [h, ↓upd_eq, ↓envL_cons, Go.Ab.W0, Go.Ab.WD, Go.Ab.WE, if_true, if_false, reduceIte, Nat.reduceEqDiff, Nat.reduceAdd, Nat.reduceLT, Nat.reduceLeDiff, reduceCtorEq, Nat.reduceMul, implies_true, forall_eq_or_imp, forall_eq, Nat.reducePow, W1, W1C, W1B, Go.Ab.W3, Int.reduceAdd, Int.reduceLT, Int.reduceToNat, Int.reduceBEq, Int.reduceBNe, Int.reduceLE, hw, cutNormal_normal]

/-! Types for all variables. -/
noncomputable def statG (vs : List Int) (l : List Ty) (c : Bool) (i : Nat) : Bd := (vs.getD i 0, if l.length = 0 then leafT 1 else (plainS c (tOf (l.getD (i % l.length) default))).ty)
noncomputable def statB (vs : List Int) (l : List Ty) (c : Bool) : List Bd := (List.range vs.length).map (statG vs l c)
theorem statB_len (vs : List Int) (l : List Ty) (c : Bool) : (statB vs l c).length = vs.length := by simp [statB]
theorem statB_get (vs : List Int) (l : List Ty) (c : Bool) {i : Nat} (h : i < vs.length) : (statB vs l c).getD i default = statG vs l c i := by simp [statB, h]
theorem statG_right {vs : List Int} {l : List Ty} {c : Bool} (hl : ∀ x ∈ l, right x = true) (i : Nat) : right (statG vs l c i).2 = true := by
  simp only [statG]
  split
  · rfl
  · rename_i h
    have hm : l.getD (i % l.length) default ∈ l := by
      have : i % l.length < l.length := Nat.mod_lt _ (by omega)
      simp [this]
    obtain ⟨x, e, hx⟩ := T.of_right' (hl _ hm)
    rw [e, tOf_ty, T.right_ty]; exact plainS_ok c x hx
theorem lookB_mem : ∀ (l : List Bd) (n : Int) (t : Ty), lookB l n = some t → ∃ p ∈ l, p.1 = n ∧ p.2 = t
  | p :: l, n, t, h => by
    rw [lookB] at h
    split at h
    · rename_i e; cases h; exact ⟨p, List.mem_cons_self, e, rfl⟩
    · obtain ⟨q, hq, h2⟩ := lookB_mem l n t h; exact ⟨q, List.mem_cons_of_mem _ hq, h2⟩
theorem statB_right {vs : List Int} {l : List Ty} {c : Bool} (hl : ∀ x ∈ l, right x = true) (n : Int) (t : Ty) (h : lookB (statB vs l c) n = some t) : right t = true := by
  obtain ⟨p, hp, _, rfl⟩ := lookB_mem _ _ _ h
  obtain ⟨i, _, rfl⟩ := List.mem_map.1 hp
  exact statG_right hl i
theorem mapR (G : Nat → Bd) (n : Nat) : (List.range (n + 1)).map G = (List.range n).map G ++ [G n] := by rw [List.range_succ, List.map_append]; rfl
theorem statB_ok (t : Ty) (l : List Ty) (c : Bool) (ht : nodes t ≤ 1048576) (hl : l.length ≤ 1000000) (hr : ∀ x ∈ l, right x = true) : PCalls Try.prog 122 [emb t, .sl (l.map emb) .no, .bool c] (.sl ((statB (varsT t) l c).map embB) .no) := by
  have hv := rVars_ok t ht
  have hvl := varsT_len t
  generalize varsT t = vs at *
  have hroom : ∀ i, i < vs.length → ((i + 1) * 48 ≤ 140737488355328) = True := fun i h => by simp only [eq_iff_iff, iff_true]; omega
  have hroom2 : ∀ i, i < vs.length → (i + 1 ≤ 9223372036854775807) = True := fun i h => by simp only [eq_iff_iff, iff_true]; omega
  have hmax : vs.length ≤ maxLen := by rw [maxLen_val]; omega
  by_cases h0 : l.length = 0
  · have hl0 : ((l.length : Int) > 0) = False := by simp only [eq_iff_iff, iff_false]; omega
    have hg : ∀ i, (statG vs l c i).2 = leafT 1 := fun i => by rw [statG]; simp only [h0, if_true]
    have hlf : ∀ i, PCalls Try.prog 71 [.int .i64 1] (emb (statG vs l c i).2) := fun i => by rw [hg]; exact leaf_ok 1
    have hend : ∀ m, ¬ m < vs.length → m ≤ vs.length → ((List.range m).map (statG vs l c)).map embB = (statB vs l c).map embB := fun m h1 h2 => by rw [show m = vs.length by omega]; rfl
    refine pcalls_text C_ok Try.func122 rfl (by decide) (Nat.le_of_ble_eq_true rfl) (by decide) (by simp only [AV.bel, mapB_bel, Bool.and_self]) fun ok H => ?_
    rw [Try.results122]
    have h := True.intro
    repeat' (first
     | (with_reducible first | refine goIf_b ?_ ?_ | refine goIf_n ?_ ?_ | refine goIf_d ?_ ?_ | refine goIf_split ?_ ?_ | refine goGb_b ?_ ?_ | refine goGb_n ?_ ?_ | refine goGb_d ?_ ?_ | refine goGb_split ?_ ?_ | refine goDGb_b ?_ ?_ | refine goDGb_n ?_ ?_ | refine goDGb_d ?_ ?_ | refine goDGb_split ?_ ?_) <;> intro h
     | ((first | refine goCall_norm ?_ | refine goDCall_norm ?_); simp only [AV.norm, AV.normL, W2, W2C, W2B, i64_eq]; first | refine goCall_p (hv) (.inl rfl) ?_ | refine goDCall_p (hv) (.inl rfl) ?_)
     | refine go_draw (id := 9) C_ok mixed 0 Try.f122.ntmps rfl (by kernel_rfl) (by decide) ?_
     | skip) <;> simp only [h, ↓upd_eq, ↓envL_cons, Go.Ab.W0, Go.Ab.WD, Go.Ab.WE, if_true, if_false, reduceIte, Nat.reduceEqDiff, Nat.reduceAdd, Nat.reduceLT, Nat.reduceLeDiff, reduceCtorEq, Nat.reduceMul, implies_true, forall_eq_or_imp, forall_eq, Nat.reducePow, W1, W1C, W1B, i64_eq]
    refine aloop_trim [7, 9, 1, 2, 8] ?_
    simp only [List.map_cons, List.map_nil, ↓upd_eq, ↓envL_cons, Go.Ab.W0, Go.Ab.WD, Go.Ab.WE, if_true, if_false, reduceIte, Nat.reduceEqDiff, Nat.reduceAdd, Nat.reduceLT, Nat.reduceLeDiff, reduceCtorEq, Nat.reduceMul, implies_true, forall_eq_or_imp, forall_eq, Nat.reducePow, W1, W1C, W1B]
    refine goLoopP 2 1 (fun i : Nat => [(7, match i with
      | 0 => .sl [] .full
      | i + 1 => .sl (((List.range (i + 1)).map (statG vs l c)).map embB) (.own (H.length + 2))), (9, .int .i64 i)]) (fun i => match i with
      | 0 => []
      | i + 1 => [.box [.int .i64 (statG vs l c 0).2.kind, .int .i64 (statG vs l c 0).2.num, .sl ((statG vs l c 0).2.kids.map emb) .no], .tok (i + 1) 4]) (fun i => i ≤ vs.length) (fun i => vs.length - i) C_ok 0 rfl rfl (Nat.zero_le _) (by decide) ?_
    rintro (_ | i) hi
    · simp only [List.drop_succ_cons, List.drop_zero, List.cons_append, List.nil_append, List.take_succ_cons, List.take_zero]
      simp only [↓upd_eq, ↓envL_cons, Go.Ab.W0, Go.Ab.WD, Go.Ab.WE, if_true, if_false, reduceIte, Nat.reduceEqDiff, Nat.reduceAdd, Nat.reduceLT, Nat.reduceLeDiff, reduceCtorEq, Nat.reduceMul, implies_true, forall_eq_or_imp, forall_eq, Nat.reducePow, W1, W1C, W1B]
      refine goIf_d (fun hlt => ?_) (fun hlt => ?_)
      · have h := True.intro
        repeat' (first
         | (with_reducible first | refine goIf_b ?_ ?_ | refine goIf_n ?_ ?_ | refine goIf_d ?_ ?_ | refine goIf_split ?_ ?_ | refine goGb_b ?_ ?_ | refine goGb_n ?_ ?_ | refine goGb_d ?_ ?_ | refine goGb_split ?_ ?_ | refine goDGb_b ?_ ?_ | refine goDGb_n ?_ ?_ | refine goDGb_d ?_ ?_ | refine goDGb_split ?_ ?_) <;> intro h
         | ((first | refine goCall_norm ?_ | refine goDCall_norm ?_); simp only [AV.norm, AV.normL, W2, W2C, W2B, hlt, map_int_get hlt, i64_eq, hl0, if_false, hroom 0 hlt, hroom2 0 hlt, List.length_map]; first | refine goCall_p (hlf 0) (.inl rfl) ?_ | refine goDCall_p (hlf 0) (.inl rfl) ?_)
         | refine go_draw (id := 9) C_ok mixed 0 Try.f122.ntmps rfl (by kernel_rfl) (by decide) ?_
         | skip) <;> simp only [h, ↓upd_eq, ↓envL_cons, Go.Ab.W0, Go.Ab.WD, Go.Ab.WE, if_true, if_false, reduceIte, Nat.reduceEqDiff, Nat.reduceAdd, Nat.reduceLT, Nat.reduceLeDiff, reduceCtorEq, Nat.reduceMul, implies_true, forall_eq_or_imp, forall_eq, Nat.reducePow, W1, W1C, W1B, hlt, map_int_get hlt, i64_eq, hl0, if_false, hroom 0 hlt, hroom2 0 hlt, List.length_map]
        refine ⟨0 + 1, hlt, by omega, weak_drop rfl rfl rfl ?_ ?_ ?_ ?_⟩ <;> (try simp only [List.forall_mem_cons, mem_nil_all, frz_app, ↓upd_eq, ↓envL_cons, Nat.reduceEqDiff, if_true, if_false, reduceIte, true_and, and_true, and_self, true_or, or_true, implies_true, List.not_mem_nil, false_implies, AV.bel, AV.belL, AObj.bel, AV.norm, AV.normL, Bool.and_true, Bool.true_and, decide_true, decide_eq_true_eq, List.length_cons, List.length_nil, Nat.zero_add, Nat.reduceAdd, Nat.lt_add_one, Nat.lt_add_right_iff_pos, Nat.zero_lt_succ, Nat.zero_lt_one, Nat.reduceLT, List.take_succ_cons, List.take_zero, wrap_succ hlt hmax, map_bel, mapB_bel, ints_bel, mapB_norm, AV.belL, List.length_map]) <;> (try simp [List.range_succ, emb_cells]) <;> (try omega) <;> (try rfl)
      · simp only [↓upd_eq, ↓envL_cons, Go.Ab.W0, Go.Ab.WD, Go.Ab.WE, if_true, if_false, reduceIte, Nat.reduceEqDiff, Nat.reduceAdd, Nat.reduceLT, Nat.reduceLeDiff, reduceCtorEq, Nat.reduceMul, implies_true, forall_eq_or_imp, forall_eq, Nat.reducePow, W1, W1C, W1B]
        exact hend 0 hlt hi
    · simp only [List.drop_succ_cons, List.drop_zero, List.cons_append, List.nil_append, List.take_succ_cons, List.take_zero]
      simp only [↓upd_eq, ↓envL_cons, Go.Ab.W0, Go.Ab.WD, Go.Ab.WE, if_true, if_false, reduceIte, Nat.reduceEqDiff, Nat.reduceAdd, Nat.reduceLT, Nat.reduceLeDiff, reduceCtorEq, Nat.reduceMul, implies_true, forall_eq_or_imp, forall_eq, Nat.reducePow, W1, W1C, W1B]
      refine goIf_d (fun hlt => ?_) (fun hlt => ?_)
      · have h := True.intro
        repeat' (first
         | (with_reducible first | refine goIf_b ?_ ?_ | refine goIf_n ?_ ?_ | refine goIf_d ?_ ?_ | refine goIf_split ?_ ?_ | refine goGb_b ?_ ?_ | refine goGb_n ?_ ?_ | refine goGb_d ?_ ?_ | refine goGb_split ?_ ?_ | refine goDGb_b ?_ ?_ | refine goDGb_n ?_ ?_ | refine goDGb_d ?_ ?_ | refine goDGb_split ?_ ?_) <;> intro h
         | ((first | refine goCall_norm ?_ | refine goDCall_norm ?_); simp only [AV.norm, AV.normL, W2, W2C, W2B, hlt, map_int_get hlt, i64_eq, hl0, if_false, hroom (i + 1) hlt, hroom2 (i + 1) hlt, List.length_map]; first | refine goCall_p (hlf (i + 1)) (.inl rfl) ?_ | refine goDCall_p (hlf (i + 1)) (.inl rfl) ?_)
         | refine go_draw (id := 9) C_ok mixed 0 Try.f122.ntmps rfl (by kernel_rfl) (by decide) ?_
         | skip) <;> simp only [h, ↓upd_eq, ↓envL_cons, Go.Ab.W0, Go.Ab.WD, Go.Ab.WE, if_true, if_false, reduceIte, Nat.reduceEqDiff, Nat.reduceAdd, Nat.reduceLT, Nat.reduceLeDiff, reduceCtorEq, Nat.reduceMul, implies_true, forall_eq_or_imp, forall_eq, Nat.reducePow, W1, W1C, W1B, hlt, map_int_get hlt, i64_eq, hl0, if_false, hroom (i + 1) hlt, hroom2 (i + 1) hlt, List.length_map]
        refine ⟨i + 1 + 1, hlt, by omega, weak_drop rfl rfl rfl ?_ ?_ ?_ ?_⟩ <;> (try simp only [List.forall_mem_cons, mem_nil_all, frz_app, ↓upd_eq, ↓envL_cons, Nat.reduceEqDiff, if_true, if_false, reduceIte, true_and, and_true, and_self, true_or, or_true, implies_true, List.not_mem_nil, false_implies, AV.bel, AV.belL, AObj.bel, AV.norm, AV.normL, Bool.and_true, Bool.true_and, decide_true, decide_eq_true_eq, List.length_cons, List.length_nil, Nat.zero_add, Nat.reduceAdd, Nat.lt_add_one, Nat.lt_add_right_iff_pos, Nat.zero_lt_succ, Nat.zero_lt_one, Nat.reduceLT, List.take_succ_cons, List.take_zero, wrap_succ hlt hmax, map_bel, mapB_bel, ints_bel, mapB_norm, AV.belL, List.length_map]) <;> (try simp [List.range_succ, emb_cells]) <;> (try omega) <;> (try rfl)
      · simp only [↓upd_eq, ↓envL_cons, Go.Ab.W0, Go.Ab.WD, Go.Ab.WE, if_true, if_false, reduceIte, Nat.reduceEqDiff, Nat.reduceAdd, Nat.reduceLT, Nat.reduceLeDiff, reduceCtorEq, Nat.reduceMul, implies_true, forall_eq_or_imp, forall_eq, Nat.reducePow, W1, W1C, W1B]
        exact hend (i + 1) hlt hi
  · have hl0 : ((l.length : Int) > 0) = True := by simp only [eq_iff_iff, iff_true]; omega
    have hnz : ((l.length : Int) ≠ 0) = True := by simp only [eq_iff_iff, iff_true]; omega
    have hwm : ∀ i, i < vs.length → (i : Int).tmod (l.length : Int) = ((i % l.length : Nat) : Int) := fun i h => by
      rw [Int.tmod_eq_emod_of_nonneg (by omega), ← Int.natCast_emod]
    have hgen : ∀ i, i < vs.length → (l.map emb).getD (i % l.length) .any = emb (tOf (l.getD (i % l.length) default)).ty := fun i h => by
      have h1 := Nat.mod_lt i (show l.length > 0 by omega)
      have hm : l.getD (i % l.length) default ∈ l := by simp [h1]
      obtain ⟨x, e, hx⟩ := T.of_right' (hr _ hm)
      rw [mapT_get h1, e, tOf_ty]
    have hge : ∀ i, i < vs.length → (i % l.length < l.length) = True := fun i h => by simp only [eq_iff_iff, iff_true]; exact Nat.mod_lt i (show l.length > 0 by omega)
    have hpl : ∀ i, i < vs.length → PCalls Try.prog 159 [emb (tOf (l.getD (i % l.length) default)).ty, .bool c] (emb (statG vs l c i).2) := fun i h => by
      have := plain_ok c (tOf (l.getD (i % l.length) default))
      rw [statG]; simp only [h0, if_false]; exact this
    have hend : ∀ m, ¬ m < vs.length → m ≤ vs.length → ((List.range m).map (statG vs l c)).map embB = (statB vs l c).map embB := fun m h1 h2 => by rw [show m = vs.length by omega]; rfl
    refine pcalls_text C_ok Try.func122 rfl (by decide) (Nat.le_of_ble_eq_true rfl) (by decide) (by simp only [AV.bel, mapB_bel, Bool.and_self]) fun ok H => ?_
    rw [Try.results122]
    have h := True.intro
    repeat' (first
     | (with_reducible first | refine goIf_b ?_ ?_ | refine goIf_n ?_ ?_ | refine goIf_d ?_ ?_ | refine goIf_split ?_ ?_ | refine goGb_b ?_ ?_ | refine goGb_n ?_ ?_ | refine goGb_d ?_ ?_ | refine goGb_split ?_ ?_ | refine goDGb_b ?_ ?_ | refine goDGb_n ?_ ?_ | refine goDGb_d ?_ ?_ | refine goDGb_split ?_ ?_) <;> intro h
     | ((first | refine goCall_norm ?_ | refine goDCall_norm ?_); simp only [AV.norm, AV.normL, W2, W2C, W2B, i64_eq]; first | refine goCall_p (hv) (.inl rfl) ?_ | refine goDCall_p (hv) (.inl rfl) ?_)
     | refine go_draw (id := 9) C_ok mixed 0 Try.f122.ntmps rfl (by kernel_rfl) (by decide) ?_
     | skip) <;> simp only [h, ↓upd_eq, ↓envL_cons, Go.Ab.W0, Go.Ab.WD, Go.Ab.WE, if_true, if_false, reduceIte, Nat.reduceEqDiff, Nat.reduceAdd, Nat.reduceLT, Nat.reduceLeDiff, reduceCtorEq, Nat.reduceMul, implies_true, forall_eq_or_imp, forall_eq, Nat.reducePow, W1, W1C, W1B, i64_eq]
    refine aloop_trim [7, 9, 1, 2, 8] ?_
    simp only [List.map_cons, List.map_nil, ↓upd_eq, ↓envL_cons, Go.Ab.W0, Go.Ab.WD, Go.Ab.WE, if_true, if_false, reduceIte, Nat.reduceEqDiff, Nat.reduceAdd, Nat.reduceLT, Nat.reduceLeDiff, reduceCtorEq, Nat.reduceMul, implies_true, forall_eq_or_imp, forall_eq, Nat.reducePow, W1, W1C, W1B]
    refine goLoopP 2 1 (fun i : Nat => [(7, match i with
      | 0 => .sl [] .full
      | i + 1 => .sl (((List.range (i + 1)).map (statG vs l c)).map embB) (.own (H.length + 2))), (9, .int .i64 i)]) (fun i => match i with
      | 0 => []
      | i + 1 => [.box [.int .i64 (statG vs l c 0).2.kind, .int .i64 (statG vs l c 0).2.num, .sl ((statG vs l c 0).2.kids.map emb) .no], .tok (i + 1) 4]) (fun i => i ≤ vs.length) (fun i => vs.length - i) C_ok 0 rfl rfl (Nat.zero_le _) (by decide) ?_
    rintro (_ | i) hi
    · simp only [List.drop_succ_cons, List.drop_zero, List.cons_append, List.nil_append, List.take_succ_cons, List.take_zero]
      simp only [↓upd_eq, ↓envL_cons, Go.Ab.W0, Go.Ab.WD, Go.Ab.WE, if_true, if_false, reduceIte, Nat.reduceEqDiff, Nat.reduceAdd, Nat.reduceLT, Nat.reduceLeDiff, reduceCtorEq, Nat.reduceMul, implies_true, forall_eq_or_imp, forall_eq, Nat.reducePow, W1, W1C, W1B]
      refine goIf_d (fun hlt => ?_) (fun hlt => ?_)
      · have h := True.intro
        repeat' (first
         | (with_reducible first | refine goIf_b ?_ ?_ | refine goIf_n ?_ ?_ | refine goIf_d ?_ ?_ | refine goIf_split ?_ ?_ | refine goGb_b ?_ ?_ | refine goGb_n ?_ ?_ | refine goGb_d ?_ ?_ | refine goGb_split ?_ ?_ | refine goDGb_b ?_ ?_ | refine goDGb_n ?_ ?_ | refine goDGb_d ?_ ?_ | refine goDGb_split ?_ ?_) <;> intro h
         | ((first | refine goCall_norm ?_ | refine goDCall_norm ?_); simp only [AV.norm, AV.normL, W2, W2C, W2B, hlt, map_int_get hlt, i64_eq, hl0, hnz, hwm 0 hlt, hge 0 hlt, hgen 0 hlt, hroom 0 hlt, hroom2 0 hlt, List.length_map]; first | refine goCall_p (leaf_ok _) (.inl rfl) ?_ | refine goCall_p (hpl 0 hlt) (.inl rfl) ?_ | refine goDCall_p (leaf_ok _) (.inl rfl) ?_ | refine goDCall_p (hpl 0 hlt) (.inl rfl) ?_)
         | refine go_draw (id := 9) C_ok mixed 0 Try.f122.ntmps rfl (by kernel_rfl) (by decide) ?_
         | skip) <;> simp only [h, ↓upd_eq, ↓envL_cons, Go.Ab.W0, Go.Ab.WD, Go.Ab.WE, if_true, if_false, reduceIte, Nat.reduceEqDiff, Nat.reduceAdd, Nat.reduceLT, Nat.reduceLeDiff, reduceCtorEq, Nat.reduceMul, implies_true, forall_eq_or_imp, forall_eq, Nat.reducePow, W1, W1C, W1B, hlt, map_int_get hlt, i64_eq, hl0, hnz, hwm 0 hlt, hge 0 hlt, hgen 0 hlt, hroom 0 hlt, hroom2 0 hlt, List.length_map]
        refine ⟨0 + 1, hlt, by omega, weak_drop rfl rfl rfl ?_ ?_ ?_ ?_⟩ <;> (try simp only [List.forall_mem_cons, mem_nil_all, frz_app, ↓upd_eq, ↓envL_cons, Nat.reduceEqDiff, if_true, if_false, reduceIte, true_and, and_true, and_self, true_or, or_true, implies_true, List.not_mem_nil, false_implies, AV.bel, AV.belL, AObj.bel, AV.norm, AV.normL, Bool.and_true, Bool.true_and, decide_true, decide_eq_true_eq, List.length_cons, List.length_nil, Nat.zero_add, Nat.reduceAdd, Nat.lt_add_one, Nat.lt_add_right_iff_pos, Nat.zero_lt_succ, Nat.zero_lt_one, Nat.reduceLT, List.take_succ_cons, List.take_zero, wrap_succ hlt hmax, map_bel, mapB_bel, ints_bel, mapB_norm, AV.belL, List.length_map]) <;> (try simp [List.range_succ, emb_cells]) <;> (try omega) <;> (try rfl)
      · simp only [↓upd_eq, ↓envL_cons, Go.Ab.W0, Go.Ab.WD, Go.Ab.WE, if_true, if_false, reduceIte, Nat.reduceEqDiff, Nat.reduceAdd, Nat.reduceLT, Nat.reduceLeDiff, reduceCtorEq, Nat.reduceMul, implies_true, forall_eq_or_imp, forall_eq, Nat.reducePow, W1, W1C, W1B]
        exact hend 0 hlt hi
    · simp only [List.drop_succ_cons, List.drop_zero, List.cons_append, List.nil_append, List.take_succ_cons, List.take_zero]
      simp only [↓upd_eq, ↓envL_cons, Go.Ab.W0, Go.Ab.WD, Go.Ab.WE, if_true, if_false, reduceIte, Nat.reduceEqDiff, Nat.reduceAdd, Nat.reduceLT, Nat.reduceLeDiff, reduceCtorEq, Nat.reduceMul, implies_true, forall_eq_or_imp, forall_eq, Nat.reducePow, W1, W1C, W1B]
      refine goIf_d (fun hlt => ?_) (fun hlt => ?_)
      · have h := True.intro
        repeat' (first
         | (with_reducible first | refine goIf_b ?_ ?_ | refine goIf_n ?_ ?_ | refine goIf_d ?_ ?_ | refine goIf_split ?_ ?_ | refine goGb_b ?_ ?_ | refine goGb_n ?_ ?_ | refine goGb_d ?_ ?_ | refine goGb_split ?_ ?_ | refine goDGb_b ?_ ?_ | refine goDGb_n ?_ ?_ | refine goDGb_d ?_ ?_ | refine goDGb_split ?_ ?_) <;> intro h
         | ((first | refine goCall_norm ?_ | refine goDCall_norm ?_); simp only [AV.norm, AV.normL, W2, W2C, W2B, hlt, map_int_get hlt, i64_eq, hl0, hnz, hwm (i + 1) hlt, hge (i + 1) hlt, hgen (i + 1) hlt, hroom (i + 1) hlt, hroom2 (i + 1) hlt, List.length_map]; first | refine goCall_p (leaf_ok _) (.inl rfl) ?_ | refine goCall_p (hpl (i + 1) hlt) (.inl rfl) ?_ | refine goDCall_p (leaf_ok _) (.inl rfl) ?_ | refine goDCall_p (hpl (i + 1) hlt) (.inl rfl) ?_)
         | refine go_draw (id := 9) C_ok mixed 0 Try.f122.ntmps rfl (by kernel_rfl) (by decide) ?_
         | skip) <;> simp only [h, ↓upd_eq, ↓envL_cons, Go.Ab.W0, Go.Ab.WD, Go.Ab.WE, if_true, if_false, reduceIte, Nat.reduceEqDiff, Nat.reduceAdd, Nat.reduceLT, Nat.reduceLeDiff, reduceCtorEq, Nat.reduceMul, implies_true, forall_eq_or_imp, forall_eq, Nat.reducePow, W1, W1C, W1B, hlt, map_int_get hlt, i64_eq, hl0, hnz, hwm (i + 1) hlt, hge (i + 1) hlt, hgen (i + 1) hlt, hroom (i + 1) hlt, hroom2 (i + 1) hlt, List.length_map]
        refine ⟨i + 1 + 1, hlt, by omega, weak_drop rfl rfl rfl ?_ ?_ ?_ ?_⟩ <;> (try simp only [List.forall_mem_cons, mem_nil_all, frz_app, ↓upd_eq, ↓envL_cons, Nat.reduceEqDiff, if_true, if_false, reduceIte, true_and, and_true, and_self, true_or, or_true, implies_true, List.not_mem_nil, false_implies, AV.bel, AV.belL, AObj.bel, AV.norm, AV.normL, Bool.and_true, Bool.true_and, decide_true, decide_eq_true_eq, List.length_cons, List.length_nil, Nat.zero_add, Nat.reduceAdd, Nat.lt_add_one, Nat.lt_add_right_iff_pos, Nat.zero_lt_succ, Nat.zero_lt_one, Nat.reduceLT, List.take_succ_cons, List.take_zero, wrap_succ hlt hmax, map_bel, mapB_bel, ints_bel, mapB_norm, AV.belL, List.length_map]) <;> (try simp [List.range_succ, emb_cells]) <;> (try omega) <;> (try rfl)
      · simp only [↓upd_eq, ↓envL_cons, Go.Ab.W0, Go.Ab.WD, Go.Ab.WE, if_true, if_false, reduceIte, Nat.reduceEqDiff, Nat.reduceAdd, Nat.reduceLT, Nat.reduceLeDiff, reduceCtorEq, Nat.reduceMul, implies_true, forall_eq_or_imp, forall_eq, Nat.reducePow, W1, W1C, W1B]
        exact hend (i + 1) hlt hi

end Go.Proofs.Ytajdipeebpmifaa
end

