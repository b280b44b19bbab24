/- What the laws of stores with types made in them share. No condition. -/
import Derived.Test.YtdngjamjccjlmaaW18
import Derived.Test.YtdngjamjccjlmaaS10
set_option linter.unusedSimpArgs false
set_option linter.unusedVariables false
set_option maxHeartbeats 4000000
set_option maxRecDepth 100000
namespace Go.Proofs.Ytdngjamjccjlmaa
open Go Go.Ab

theorem VI_nil (S : St) : VI S [] := ⟨fun k n h => by simp [mget] at h, fun k k' n h => by simp [mget] at h⟩
theorem belJ {G J J' : List AObj} {s r v v' b : Nat} {L L' : Mem} {lim cnt rd lim' cnt' rd' : Int} (hs : s < G.length) (hr : r < G.length) (hne : r ≠ s) (hb : b ≤ G.length)
    (h : ∀ x ∈ (hpS (G ++ J) s r v L lim cnt rd).take b, x.bel b = true) : ∀ x ∈ (hpS (G ++ J') s r v' L' lim' cnt' rd').take b, x.bel b = true := by
  have e : ∀ (J : List AObj) v (L : Mem) (lim cnt rd : Int), (hpS (G ++ J) s r v L lim cnt rd).take b = (hpS G s r v L lim cnt rd).take b := fun J v L lim cnt rd => by
    unfold hpS; rw [← stF_app hs hr, List.take_append_of_le_length (by rw [stF_len]; exact hb)]
  rw [e] at h ⊢
  exact hpS_bel hs hr hne h
theorem MadeC.loc {s r j : Nat} {lim rd lvl : Int} {t : Ty} {v : Nat} {L : Mem} {cnt : Int} {Z : List (Int × Int)} {v' : Nat} {L' : Mem} {cnt' : Int} {Z' : List (Int × Int)} {n : Nat} {G : List AObj} (h : MadeC s r (G.length + j) lim rd lvl t v L cnt Z v' L' cnt' Z' n)
    (hs : s < G.length) (hr : r < G.length) (J J' : List AObj) (hj : j < J.length) (e1 : J.set j (.map (embM Z)) = J) (e2 : J.set j (.map (embM Z')) = J') :
    DCalls Try.prog 22 [.bptr s 0, emb t, .int .i64 lvl, .mp (G.length + j)] (hpS (G ++ J) s r v L lim cnt rd) (.tup [.int .i64 n, .int .i64 0]) (hpS (G ++ J') s r v' L' lim cnt' rd) := by
  have := h (G ++ J) (lt_app hs) (lt_app hr) (by simp; omega)
  rw [app_setkc rfl, app_setkc rfl, e1, e2] at this
  exact this
/-- Variables of a type that was made, in a later store. -/
theorem MadeOK.varsAt {lvl : Int} {S S' S2 : St} {vs vs' : List (Int × Int)} {t : T} {n : Nat} (h : MadeOK lvl S vs t S' vs' n) (hw : Wf S2) (hS : S2.length ≤ 1048577) (hl : n < S2.length) (ht : S2.tree n = S'.tree n) : (S2.vars n).length = (t.varsF []).length := by
  rw [hw.vars_len hS hl (ht.trans h.tree)]
  have := ren_vars (ρ := nu vs') t [] fun k k' hk hk' e => by
    simp only [List.not_mem_nil, false_or] at hk hk'
    obtain ⟨m, hm⟩ := Option.isSome_iff_exists.1 (h.dom k hk)
    obtain ⟨m', hm'⟩ := Option.isSome_iff_exists.1 (h.dom k' hk')
    rw [nu, nu, hm, hm'] at e
    simp only [Option.getD_some] at e
    subst e
    exact h.vi.inj k k' m hm hm'
  simp only [List.map_nil] at this
  rw [this, List.length_map]
theorem vars_root {S : St} (h : Wf S) {n x : Nat} (hn : n < S.length) (hx : x ∈ S.vars n) : S.root x = x ∧ S.kind x = 6 ∧ x < S.length := by
  obtain ⟨h1, h2⟩ := (h.mem_vars hn).1 hx
  exact ⟨h1.root h, h2, h1.lt h hn⟩

end Go.Proofs.Ytdngjamjccjlmaa
