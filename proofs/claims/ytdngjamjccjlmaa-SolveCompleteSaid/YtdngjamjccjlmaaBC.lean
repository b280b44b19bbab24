/- Layer 13: pairs that were made to agree do. No condition. -/
import Derived.Test.YtdngjamjccjlmaaNH
import Derived.Test.YtdngjamjccjlmaaPFa
set_option linter.unusedSimpArgs false
set_option linter.unusedVariables false
set_option maxHeartbeats 4000000
set_option maxRecDepth 100000
namespace Go.Proofs.Ytdngjamjccjlmaa
open Go Go.Ab
open Nat renaming reduceEqDiff → yA, reduceAdd → yB, reduceLT → yC, reduceLeDiff → yD, reduceMul → yE, reducePow → yF, reduceBEq → yG
open Int renaming reduceAdd → yH, reduceLT → yI, reduceToNat → yJ, reduceBEq → yK, reduceBNe → yL, reduceLE → yM
attribute [local irreducible] PCalls ACalls CallK GoCall GoDCall GoIf GoGb GoDGb GoO GoD GoX GoDX GoG GoDG GoGv GoDGv Go ALoop

theorem sound_read {F : List AObj} {s r : Nat} (hs : s < F.length) (hr : r < F.length) (hne : r ≠ s) {l : List (T × T)} {n : Nat} {Z : List (Int × Int)} {σ0 : Sto} {ps : List (Nat × Nat)} {e : Int} {σ : Sto} (hF : SolvedF l n Z σ0 ps e σ) :
    DCalls Try.prog 30 [.bptr s 0, .int .i64 (n : Nat)] (σ.heap F s r 65536) (if ((σ.L.st.tT n).size : Int) ≤ 65536 - σ.cnt then .tup [emb (σ.L.st.tT n).ty, .int .i64 0] else .tup [emb (.mk 0 0 []), .int .i64 7])
      (hpS F s r σ.v σ.L 65536 (if ((σ.L.st.tT n).size : Int) ≤ 65536 - σ.cnt then σ.cnt + (σ.L.st.tT n).size else σ.cnt) σ.rd) := by
  have hn : n < σ.L.st.length := Nat.lt_of_lt_of_le (by rw [Mem.st_len]; exact hF.hn) hF.ext.len
  have h1 := hF.cnt1
  have h2 := hF.cnt2
  have h := read_gen (F := F) (s := s) (r := r) (v := σ.v) (L := σ.L) (lim := 65536) (cnt := σ.cnt) (rd := σ.rd) hs hr hne hF.good.si.wf n (by rw [Mem.st_len] at hn; exact hn) ⟨h1, by omega, by omega⟩
  rw [hF.good.si.wf.tT_ty n hn, nodes_size] at h
  exact h
end Go.Proofs.Ytdngjamjccjlmaa
