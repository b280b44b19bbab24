/- Walks: a variable becomes a node, all cases in one. No condition. -/
import Derived.Test.YtdngjamjccjlmaaB4
import Derived.Test.YtdngjamjccjlmaaN4
set_option linter.unusedSimpArgs false
set_option linter.unusedVariables false
set_option maxHeartbeats 4000000
set_option maxRecDepth 100000
namespace Go.Proofs.Ytdngjamjccjlmaa
open Go Go.Ab

def St.key (m : Option Nat) : Int := match m with | none => -1 | some m => m
theorem Wf.all_leaf {S : St} (h : Wf S) {y : Nat} (hy : y < S.length) (ey : S.root y = y) (hk : S.kids y = []) : S.all y = [y] := by
  rw [St.all, h.look_eq hy, ey, hk]; rfl
section
variable {F : List AObj} {s r : Nat} {lim : Int}
theorem become_ok (hs : s < F.length) (hr : r < F.length) (hne : r ≠ s) {σ : Sto} (h : LiveS σ) (hb : σ.rd + 4 ≤ 90000000000) (hc0 : 0 ≤ σ.cnt ∧ σ.cnt ≤ 900000) (hlen : σ.L.length ≤ 800000) {x y : Nat} (hx : x < σ.L.length) (hy : y < σ.L.length) (ex : σ.L.st.root x = x) (ey : σ.L.st.root y = y) (h6 : σ.L.st.kind x = 6) (hlv : 0 ≤ (σ.L.st.nd x).level) (hxy : x ≠ y) (hy4 : y ≠ 4) :
    DCalls Try.prog 98 [.bptr s 0, .int .i64 x, .int .i64 y] (σ.heap F s r lim) (.tup [.int .i64 (St.key (σ.become lim x y).1), .int .i64 (σ.become lim x y).2.1]) ((σ.become lim x y).2.2.heap F s r lim) := by
  unfold Sto.become
  by_cases hk6 : σ.L.st.kind y = 6
  · rw [if_pos hk6]
    exact become_link hs hr hne h hx hy ex ey h6 hxy hk6
  rw [if_neg hk6]
  by_cases h4 : 4 ∈ σ.L.st.all y
  · rw [if_neg (by simpa using h4)]
    by_cases hin : x ∈ σ.L.st.all y
    · rw [if_pos hin]
      exact become_loop hs hr hne h (by omega) hx hy ex ey hk6 h4 hin
    rw [if_neg hin]
    rcases h.si.wf.shape6 (y := y) (by rw [Mem.st_len]; exact hy) with hk | ⟨h5, _, hk⟩ | ⟨hk, a, hks⟩ | ⟨hk, a, b, hks⟩
    · exact absurd hk.1 hk6
    · rw [h.si.wf.all_leaf (by rw [Mem.st_len]; exact hy) ey hk] at h4
      simp at h4
      omega
    · rw [hks]
      simp only
      by_cases c0 : σ.cnt = lim
      · rw [if_pos c0]
        exact become_one0 hs hr hne h hb hc0 hx hy ex ey h6 hlv hk hks h4 hin c0
      rw [if_neg c0]
      by_cases c1 : σ.cnt + 1 = lim
      · rw [if_pos c1]
        exact become_one1 hs hr hne h hb hc0 hlen hx hy ex ey h6 hlv hk hks h4 hin c1
      rw [if_neg c1, hk]
      exact become_one2 hs hr hne h hb hc0 hlen hx hy ex ey h6 hlv hk hks h4 hin c0 c1
    · rw [hks]
      simp only
      by_cases c0 : σ.cnt = lim
      · rw [if_pos c0]
        exact become_two0 hs hr hne h hb hc0 hx hy ex ey h6 hlv hk hks h4 hin c0
      rw [if_neg c0]
      by_cases c1 : σ.cnt + 1 = lim
      · rw [if_pos c1]
        exact become_two1 hs hr hne h hb hc0 hlen hx hy ex ey h6 hlv hk hks h4 hin c1
      rw [if_neg c1]
      by_cases c2 : σ.cnt + 2 = lim
      · rw [if_pos c2]
        exact become_two2 hs hr hne h hb hc0 hlen hx hy ex ey h6 hlv hk hks h4 hin (by omega)
      rw [if_neg c2]
      exact become_two3 hs hr hne h hb hc0 hlen hx hy ex ey h6 hlv hk hks h4 hin c0 c1 c2
  · rw [if_pos h4]
    exact become_stat hs hr hne h (by omega) hx hy ex ey h6 hxy hk6 h4
end

end Go.Proofs.Ytdngjamjccjlmaa
