/- Layer 12: levels behind a link and a lowering. No condition. -/
import Derived.Test.YtdngjamjccjlmaaWH
set_option linter.unusedSimpArgs false
set_option linter.unusedVariables false
set_option maxHeartbeats 4000000
set_option maxRecDepth 100000
namespace Go.Proofs.Ytdngjamjccjlmaa
open Go Go.Ab

/-- What is known when two types were made and a variable behind them. -/
theorem lev_two {t u : T} {a b : Int} {S1 S2 : St} {Z1 Z2 : List (Int × Int)} {n mm : Nat} (e1 : madeN a t mem0.st [] = (S1, Z1, n)) (e2 : madeN b u S1 [] = (S2, Z2, mm)) (hS : S2.length ≤ 1000000) :
    Wf S1 ∧ Wf S2 ∧ n < S1.length ∧ S1.length ≤ S2.length ∧ mm < S2.length ∧ S2.tree n = (putS (fun k => .var (nu Z1 k)) t).ty ∧ S2.tree mm = (putS (fun k => .var (nu Z2 k)) u).ty ∧
    (∀ z, (putS (fun k => .var (nu Z1 k)) t).has (z : Nat) = true → z < S1.length ∧ (S2.nd z).level = a) ∧ (∀ z, (putS (fun k => .var (nu Z2 k)) u).has (z : Nat) = true → S1.length ≤ z ∧ z < S2.length ∧ (S2.nd z).level = b) ∧
    ((putS (fun k => .var (nu Z1 k)) t).varsF []).length = Z1.length ∧ ((putS (fun k => .var (nu Z2 k)) u).varsF []).length = Z2.length := by
  have o1 := madeN_ok a t mem0.st [] wf_mem0 (VI_nil _)
  have k1 := madeN_keys a t mem0.st []
  rw [e1] at o1 k1
  have o2 := madeN_ok b u S1 [] o1.wf (VI_nil _)
  have k2 := madeN_keys b u S1 []
  have n2 := madeN_new b u S1 []
  rw [e2] at o2 k2 n2
  simp only at o1 o2 k1 k2 n2
  have l2 := o2.len.1
  have h1 := vars_has o1.wf (by omega) o1.lt o1.tree
  have h2 := vars_has o2.wf (by omega) o2.lt o2.tree
  have t1 : S2.tree n = (putS (fun k => .var (nu Z1 k)) t).ty := (o2.oldt n o1.lt).1.trans o1.tree
  refine ⟨o1.wf, o2.wf, o1.lt, l2, o2.lt, t1, o2.tree, fun z hz => ?_, fun z hz => ?_, ?_, ?_⟩
  · have hz' := (h1 z).2 hz
    obtain ⟨q1, q2⟩ := vars_five o1.wf o1.lt z hz'
    have q3 := ((o1.wf.mem_vars o1.lt).1 hz').2
    refine ⟨q2, ?_⟩
    rw [o2.old z q2]
    exact o1.lvl z q1 q2 q3
  · have hz' := (h2 z).2 hz
    obtain ⟨q1, q2⟩ := vars_five o2.wf o2.lt z hz'
    have q3 := ((o2.wf.mem_vars o2.lt).1 hz').2
    obtain ⟨k, hk, ek⟩ := (has_ren u z).1 hz
    obtain ⟨w, hw⟩ := Option.isSome_iff_exists.1 (o2.dom k hk)
    have hle : S1.length ≤ z := by
      rcases n2 k w hw with h | h
      · simp [mget] at h
      · rw [nu, hw] at ek
        simp only [Option.getD_some] at ek; omega
    exact ⟨hle, q2, o2.lvl z hle q2 q3⟩
  · have e := congrArg List.length k1
    rw [List.length_map] at e
    rw [← o1.wf.vars_len (by omega) o1.lt o1.tree, o1.varsAt o1.wf (by omega) o1.lt rfl, e]; rfl
  · have e := congrArg List.length k2
    rw [List.length_map] at e
    rw [← o2.wf.vars_len (by omega) o2.lt o2.tree, o2.varsAt o2.wf (by omega) o2.lt rfl, e]; rfl

end Go.Proofs.Ytdngjamjccjlmaa
