/- Layer 12: what is put is read as it was. No condition. -/
import Derived.Test.YtdngjamjccjlmaaW15
import Derived.Test.YtdngjamjccjlmaaTO
set_option linter.unusedSimpArgs false
set_option linter.unusedVariables false
set_option maxHeartbeats 4000000
set_option maxRecDepth 100000
namespace Go.Proofs.Ytdngjamjccjlmaa
open Go Go.Ab
open Nat renaming reduceEqDiff → yA, reduceAdd → yB, reduceLT → yC, reduceLeDiff → yD, reduceMul → yE, reducePow → yF, reduceBEq → yG
open Int renaming reduceAdd → yH, reduceLT → yI, reduceToNat → yJ, reduceBEq → yK, reduceBNe → yL, reduceLE → yM
attribute [local irreducible] PCalls ACalls CallK GoCall GoDCall GoIf GoGb GoDGb GoO GoD GoX GoDX GoG GoDG GoGv GoDGv Go ALoop

theorem putM_si {rd : Int} (t : T) (L : Mem) (h : SI L rd) (hc : t.closed = true) : SI (putM t L).1 rd ∧ (putM t L).2 < (putM t L).1.length ∧ (putM t L).1.st.tree (putM t L).2 = t.ty := by
  have h1 := putM_st t L
  have h2 := putN_ok t L.st h.wf hc
  rw [← h1.1, ← h1.2] at h2
  exact ⟨⟨h2.wf, putM_mb h.rd0 t L h.mb, h.rd0⟩, by have := h2.lt; rwa [Mem.st_len] at this, h2.tree⟩
theorem take_low {G F H : List AObj} {b : Nat} (ht : G.take F.length = F) (hb : b ≤ F.length) (h : F.take b = H) : G.take b = H := by
  have e : (G.take F.length).take b = G.take b := by rw [List.take_take, Nat.min_eq_left hb]
  rw [← e, ht, h]
end Go.Proofs.Ytdngjamjccjlmaa
