/- Walks: whether an instance is below another one: what the statements' witness asks. No condition. -/
import Derived.Test.YtpkdbhlpndibkaaE8
set_option linter.unusedSimpArgs false
set_option linter.unusedVariables false
set_option maxHeartbeats 4000000
set_option maxRecDepth 100000
namespace Go.Proofs.Ytpkdbhlpndibkaa
open Go Go.Ab
attribute [local irreducible] PCalls ACalls CallK GoCall GoDCall GoIf GoGb GoDGb GoO GoD GoX GoDX GoG GoDG GoGv GoDGv Go ALoop

section
variable {F : List AObj} {g q c a b d : Nat} {x3 x6 : AObj}
theorem gbelow_two (hD : SixD F g q c a b d) {x y x' y' : Ty} (hy : y'.kind = y'.kind) {v v1 v2 : Nat} {N N1 N2 : List GN} {A A1 A2 B B1 B2 : List (Int × Int)}
    (i1 : ∀ F : List AObj, SixD F g q c a b d → DCalls Try.prog 41 [.bptr g 0, emb x, emb x'] (hpG F g q c a b d v N A B x3 x6) (.bool true) (hpG F g q c a b d v1 N1 A1 B1 x3 x6))
    (i2 : ∀ F : List AObj, SixD F g q c a b d → DCalls Try.prog 41 [.bptr g 0, emb y, emb y'] (hpG F g q c a b d v1 N1 A1 B1 x3 x6) (.bool true) (hpG F g q c a b d v2 N2 A2 B2 x3 x6)) :
    DCalls Try.prog 41 [.bptr g 0, emb (.mk 9 0 [x, y]), emb (.mk 9 0 [x', y'])] (hpG F g q c a b d v N A B x3 x6) (.bool true) (hpG F g q c a b d v2 N2 A2 B2 x3 x6) := by
  have hP := sixP hD
  unfold DCalls
  refine acallsD_text C_ok Try.func41 rfl (by decide) (Nat.le_of_ble_eq_true rfl) (by decide) fun ok => ?_
  rw [Try.results41]
  have h := True.intro
  repeat' (first
   | (with_reducible first | refine goIf_b ?_ ?_ | refine goIf_n ?_ ?_ | refine goIf_d ?_ ?_ | refine goIf_split ?_ ?_ | refine goGb_b ?_ ?_ | refine goGb_n ?_ ?_ | refine goGb_d ?_ ?_ | refine goGb_split ?_ ?_ | refine goDGb_b ?_ ?_ | refine goDGb_n ?_ ?_ | refine goDGb_d ?_ ?_ | refine goDGb_split ?_ ?_) <;> intro h
   | ((first | refine goCall_norm ?_ | refine goDCall_norm ?_); simp only [AV.norm, AV.normL, W2, W2B, Go.Ab.W3, Int.reduceAdd, Int.reduceLT, Int.reduceToNat, Int.reduceBEq, Int.reduceBNe, Int.reduceLE, hpG, hP, bne_self_eq_false, emb_bel, emb_cells, AV.belL, AV.bel, retD_ret, retD_normal]; first  | refine goDCall_z rfl trivial (i1 _ (by first | exact hD | exact hD.app _)) (.inl rfl) (fun hb => grB (by first | exact hD | exact hD.app _) hb) ?_ | refine goDCall_z rfl trivial (i2 _ (by first | exact hD | exact hD.app _)) (.inl rfl) (fun hb => grB (by first | exact hD | exact hD.app _) hb) ?_)
   | refine go_drawF (id := 4) C_ok (fun _ => trivial) mixed 0 Try.f41.ntmps (by first | (simp; done) | (simp; omega)) rfl (by kernel_rfl) (by decide) ?_
   | refine go_drawF (id := 10) C_ok (fun _ => trivial) mixed 0 Try.f41.ntmps (by first | (simp; done) | (simp; omega)) rfl (by kernel_rfl) (by decide) ?_
   | refine goRound ?_ C_ok Try.f41.ntmps rfl (by decide)
   | skip) <;> simp only [h, ↓upd_eq, ↓envL_cons, Go.Ab.W0, Go.Ab.WD, if_true, if_false, reduceIte, Nat.reduceEqDiff, Nat.reduceAdd, Nat.reduceLT, Nat.reduceLeDiff, reduceCtorEq, Nat.reduceMul, implies_true, forall_eq_or_imp, forall_eq, Nat.reducePow, W1, W1B, fs_frz, fs_frz0, fs_env, fs_b, fs_n, fs_put, fs_put0, fs_tmp, fs_const, fs_func, fs_obj, fs_setObj, fs_new, fs_next, fs_mk, fs_H, le_app, le_set, app_get, app_set, app_get0c, app_getkc, app_set0c, app_setkc, List.append_assoc, not_false_eq_true, not_true_eq_false, retE_ret, retP_ret, List.length_append, List.length_set, Nat.le_succ, Go.Ab.W3, Int.reduceAdd, Int.reduceLT, Int.reduceToNat, Int.reduceBEq, Int.reduceBNe, Int.reduceLE, hpG, hP, bne_self_eq_false, emb_bel, emb_cells, AV.belL, AV.bel, retD_ret, retD_normal, cutNormal_normal]
  all_goals first | rfl | trace_state
theorem gbelow_one0 (hD : SixD F g q c a b d) {x x' : Ty} {v v1 : Nat} {N N1 : List GN} {A A1 B B1 : List (Int × Int)}
    (i1 : ∀ F : List AObj, SixD F g q c a b d → DCalls Try.prog 41 [.bptr g 0, emb x, emb x'] (hpG F g q c a b d v N A B x3 x6) (.bool false) (hpG F g q c a b d v1 N1 A1 B1 x3 x6)) :
    DCalls Try.prog 41 [.bptr g 0, emb (.mk 8 0 [x]), emb (.mk 8 0 [x'])] (hpG F g q c a b d v N A B x3 x6) (.bool false) (hpG F g q c a b d v1 N1 A1 B1 x3 x6) := by
  have hP := sixP hD
  unfold DCalls
  refine acallsD_text C_ok Try.func41 rfl (by decide) (Nat.le_of_ble_eq_true rfl) (by decide) fun ok => ?_
  rw [Try.results41]
  have h := True.intro
  repeat' (first
   | (with_reducible first | refine goIf_b ?_ ?_ | refine goIf_n ?_ ?_ | refine goIf_d ?_ ?_ | refine goIf_split ?_ ?_ | refine goGb_b ?_ ?_ | refine goGb_n ?_ ?_ | refine goGb_d ?_ ?_ | refine goGb_split ?_ ?_ | refine goDGb_b ?_ ?_ | refine goDGb_n ?_ ?_ | refine goDGb_d ?_ ?_ | refine goDGb_split ?_ ?_) <;> intro h
   | ((first | refine goCall_norm ?_ | refine goDCall_norm ?_); simp only [AV.norm, AV.normL, W2, W2B, Go.Ab.W3, Int.reduceAdd, Int.reduceLT, Int.reduceToNat, Int.reduceBEq, Int.reduceBNe, Int.reduceLE, hpG, hP, bne_self_eq_false, emb_bel, emb_cells, AV.belL, AV.bel, retD_ret, retD_normal]; first  | refine goDCall_z rfl trivial (i1 _ (by first | exact hD | exact hD.app _)) (.inl rfl) (fun hb => grB (by first | exact hD | exact hD.app _) hb) ?_)
   | refine go_drawF (id := 4) C_ok (fun _ => trivial) mixed 0 Try.f41.ntmps (by first | (simp; done) | (simp; omega)) rfl (by kernel_rfl) (by decide) ?_
   | refine go_drawF (id := 10) C_ok (fun _ => trivial) mixed 0 Try.f41.ntmps (by first | (simp; done) | (simp; omega)) rfl (by kernel_rfl) (by decide) ?_
   | refine goRound ?_ C_ok Try.f41.ntmps rfl (by decide)
   | skip) <;> simp only [h, ↓upd_eq, ↓envL_cons, Go.Ab.W0, Go.Ab.WD, if_true, if_false, reduceIte, Nat.reduceEqDiff, Nat.reduceAdd, Nat.reduceLT, Nat.reduceLeDiff, reduceCtorEq, Nat.reduceMul, implies_true, forall_eq_or_imp, forall_eq, Nat.reducePow, W1, W1B, fs_frz, fs_frz0, fs_env, fs_b, fs_n, fs_put, fs_put0, fs_tmp, fs_const, fs_func, fs_obj, fs_setObj, fs_new, fs_next, fs_mk, fs_H, le_app, le_set, app_get, app_set, app_get0c, app_getkc, app_set0c, app_setkc, List.append_assoc, not_false_eq_true, not_true_eq_false, retE_ret, retP_ret, List.length_append, List.length_set, Nat.le_succ, Go.Ab.W3, Int.reduceAdd, Int.reduceLT, Int.reduceToNat, Int.reduceBEq, Int.reduceBNe, Int.reduceLE, hpG, hP, bne_self_eq_false, emb_bel, emb_cells, AV.belL, AV.bel, retD_ret, retD_normal, cutNormal_normal]
  all_goals first | rfl | trace_state
end
/-- The heap with which it goes on. -/
def bxT (t : Ty) : AObj := .box [.int .i64 t.kind, .int .i64 t.num, .sl (t.kids.map emb) .no]
def unJ (F : List AObj) (t u : Ty) (A B : List (Int × Int)) (v : Nat) (N : List GN) : List AObj := F ++ [bxT t, bxT u, .map (embM A), .map (embM B), .box [.ms (F.length + 5) v N.length, .mp (F.length + 2), .mp (F.length + 3)], .arr v 3 (N.map embG)]
theorem unJ_eq (F : List AObj) (t u : Ty) (A A' B B' : List (Int × Int)) (v v' : Nat) (N N' : List GN) : hpG (unJ F t u A B v N) (F.length + 4) (F.length + 5) F.length (F.length + 2) (F.length + 3) (F.length + 1) v' N' A' B' (bxT t) (bxT u) = unJ F t u A' B' v' N' := by
  unfold hpG six stF unJ
  rw [app_set0c rfl, app_setkc rfl, app_setkc rfl, app_setkc rfl, app_setkc rfl, app_setkc rfl]
  rfl
theorem unJ_d (F : List AObj) (t u : Ty) (A B : List (Int × Int)) (v : Nat) (N : List GN) : SixD (unJ F t u A B v N) (F.length + 4) (F.length + 5) F.length (F.length + 2) (F.length + 3) (F.length + 1) := by
  refine ⟨?_, ?_, ?_, ?_, ?_, ?_, ⟨by omega, by omega, by omega, by omega, by omega⟩, ⟨by omega, by omega, by omega, by omega⟩, ⟨by omega, by omega, by omega⟩, by omega, by omega, by omega⟩ <;> simp [unJ]
/-- The same, with the states behind. -/
def unS (F : List AObj) (t u : Ty) (A B : List (Int × Int)) (v : Nat) (N : List GN) (s0 s1 : Int) : List AObj := F ++ [bxT t, bxT u, .map (embM A), .map (embM B), .box [.ms (F.length + 5) v N.length, .mp (F.length + 2), .mp (F.length + 3)], .arr v 3 (N.map embG), stA s0 s1]
theorem unS_eq (F : List AObj) (t u : Ty) (A B : List (Int × Int)) (v : Nat) (N : List GN) (s0 s1 s2 s3 : Int) : hpG (unS F t u A B v N s0 s1) (F.length + 4) (F.length + 5) F.length (F.length + 2) (F.length + 3) (F.length + 6) v N A B (bxT t) (stA s2 s3) = unS F t u A B v N s2 s3 := by
  unfold hpG six stF unS
  rw [app_set0c rfl, app_setkc rfl, app_setkc rfl, app_setkc rfl, app_setkc rfl, app_setkc rfl]
  rfl
theorem unS_d (F : List AObj) (t u : Ty) (A B : List (Int × Int)) (v : Nat) (N : List GN) (s0 s1 : Int) : SixD (unS F t u A B v N s0 s1) (F.length + 4) (F.length + 5) F.length (F.length + 2) (F.length + 3) (F.length + 6) := by
  refine ⟨?_, ?_, ?_, ?_, ?_, ?_, ⟨by omega, by omega, by omega, by omega, by omega⟩, ⟨by omega, by omega, by omega, by omega⟩, ⟨by omega, by omega, by omega⟩, by omega, by omega, by omega⟩ <;> simp [unS]
theorem under_call {F : List AObj} {t u : Ty} {ok : Bool} {A B : List (Int × Int)} {v : Nat} {N : List GN}
    (h : DCalls Try.prog 41 [.bptr (F.length + 4) 0, emb t, emb u] (unJ F t u [] [] 0 []) (.bool ok) (unJ F t u A B v N)) :
    ACalls Try.prog 41 [.bptr (F.length + 4) 0, emb t, emb u] (F ++ [bxT t, bxT u, .map [], .map [], .box [.sl [] .full, .mp (F.length + 2), .mp (F.length + 3)]])
      fun x G => x = .bool ok ∧ G = unJ F t u A B v N := by
  refine acalls_nil (p := F.length + 4) (off := 0) (size := 3) (cs := [.sl [] .full, .mp (F.length + 2), .mp (F.length + 3)]) (app_getkc rfl) rfl ?_
  rw [app_setkc rfl, List.append_assoc]
  simp only [List.length_append, List.length_cons, List.length_nil]
  exact h

end Go.Proofs.Ytpkdbhlpndibkaa
