/- What the laws of stores with types made in them share. No condition. -/
import Derived.Test.YtdngjamjccjlmaaW18
import Derived.Test.YtdngjamjccjlmaaS10
set_option linter.unusedSimpArgs false
set_option linter.unusedVariables false
set_option maxHeartbeats 4000000
set_option maxRecDepth 100000
namespace Go.Proofs.Ytdngjamjccjlmaa
open Go Go.Ab

theorem VI_nil (S : St) : VI S [] := ⟨fun k n h => by simp [mget] at h, fun k k' n h => by simp [mget] at h⟩
theorem belJ {G J J' : List AObj} {s r v v' b : Nat} {L L' : Mem} {lim cnt rd lim' cnt' rd' : Int} (hs : s < G.length) (hr : r < G.length) (hne : r ≠ s) (hb : b ≤ G.length)
    (h : ∀ x ∈ (hpS (G ++ J) s r v L lim cnt rd).take b, x.bel b = true) : ∀ x ∈ (hpS (G ++ J') s r v' L' lim' cnt' rd').take b, x.bel b = true := by
  have e : ∀ (J : List AObj) v (L : Mem) (lim cnt rd : Int), (hpS (G ++ J) s r v L lim cnt rd).take b = (hpS G s r v L lim cnt rd).take b := fun J v L lim cnt rd => by
    unfold hpS; rw [← stF_app hs hr, List.take_append_of_le_length (by rw [stF_len]; exact hb)]
  rw [e] at h ⊢
  exact hpS_bel hs hr hne h
theorem MadeC.loc {s r j : Nat} {lim rd lvl : Int} {t : Ty} {v : Nat} {L : Mem} {cnt : Int} {Z : List (Int × Int)} {v' : Nat} {L' : Mem} {cnt' : Int} {Z' : List (Int × Int)} {n : Nat} {G : List AObj} (h : MadeC s r (G.length + j) lim rd lvl t v L cnt Z v' L' cnt' Z' n)
    (hs : s < G.length) (hr : r < G.length) (J J' : List AObj) (hj : j < J.length) (e1 : J.set j (.map (embM Z)) = J) (e2 : J.set j (.map (embM Z')) = J') :
    DCalls Try.prog 22 [.bptr s 0, emb t, .int .i64 lvl, .mp (G.length + j)] (hpS (G ++ J) s r v L lim cnt rd) (.tup [.int .i64 n, .int .i64 0]) (hpS (G ++ J') s r v' L' lim cnt' rd) := by
  have := h (G ++ J) (lt_app hs) (lt_app hr) (by simp; omega)
  rw [app_setkc rfl, app_setkc rfl, e1, e2] at this
  exact this
end Go.Proofs.Ytdngjamjccjlmaa
