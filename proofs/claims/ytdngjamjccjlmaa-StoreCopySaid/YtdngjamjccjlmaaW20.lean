/- Layer 12: levels behind a link and a lowering. No condition. -/
import Derived.Test.YtdngjamjccjlmaaWH
set_option linter.unusedSimpArgs false
set_option linter.unusedVariables false
set_option maxHeartbeats 4000000
set_option maxRecDepth 100000
namespace Go.Proofs.Ytdngjamjccjlmaa
open Go Go.Ab

theorem lev_link {L2 : Mem} {rd low : Int} (hsi : SI L2 rd) (hl : L2.length ≤ 900000) {n : Nat} (hn : n < L2.length) (hrn : L2.st.root n = n) :
    SI (L2 ++ [varN low]) rd ∧ (L2 ++ [varN low]).st.root L2.length = L2.length ∧ (L2 ++ [varN low]).st.kind L2.length = 6 ∧ (L2 ++ [varN low]).st.root n = n ∧ L2.length ∉ (L2 ++ [varN low]).st.all n ∧
    SI (linkM (L2 ++ [varN low]) rd L2.length n) (rd + 2) ∧ (∀ m, m < L2.length → (linkM (L2 ++ [varN low]) rd L2.length n).st.tree m = L2.st.tree m) ∧
    ∀ z, z < L2.length → ((linkM (L2 ++ [varN low]) rd L2.length n).st.nd z).level = if z ∈ L2.st.vars n then min (L2.st.nd z).level low else (L2.st.nd z).level := by
  have h3 := hsi.var low
  have st3 : (L2 ++ [varN low]).st = L2.st ++ [⟨6, low, none, []⟩] := Mem.st_app _ _
  have l3 : (L2 ++ [varN low]).length = L2.length + 1 := by simp
  have lst : (L2 ++ [varN low]).st.length = L2.length + 1 := by rw [Mem.st_len, l3]
  have w3 := h3.wf
  have tree3 : ∀ m, m < L2.length → (L2 ++ [varN low]).st.tree m = L2.st.tree m := fun m hm => by
    rw [st3] at w3 ⊢; exact hsi.wf.tree_add w3 rfl m (by rw [Mem.st_len]; exact hm)
  have rx : (L2 ++ [varN low]).st.root L2.length = L2.length := by
    have := root_new (S := L2.st) (x := ⟨6, low, none, []⟩) rfl
    rw [Mem.st_len] at this; rw [st3]; exact this
  have ndx : (L2 ++ [varN low]).st.nd L2.length = ⟨6, low, none, []⟩ := by
    have := St.nd_app0 (S := L2.st) (x := ⟨6, low, none, []⟩)
    rw [Mem.st_len] at this; rw [st3]; exact this
  have kx : (L2 ++ [varN low]).st.kind L2.length = 6 := by rw [St.kind, ndx]
  have rn : (L2 ++ [varN low]).st.root n = n := by
    rw [st3] at w3 ⊢; rw [hsi.wf.root_add w3 rfl n (by rw [Mem.st_len]; exact hn), hrn]
  have hno : ∀ m, m < L2.length → ¬ Rch (L2 ++ [varN low]).st m L2.length := fun m hm hr => by
    obtain ⟨y, ey, _, _⟩ := hsi.wf.tree_T (by rw [Mem.st_len]; omega) m (by rw [Mem.st_len]; exact hm)
    have a1 := vars_has hsi.wf (by rw [Mem.st_len]; omega) (by rw [Mem.st_len]; exact hm) ey L2.length
    have a2 := vars_has w3 (by omega) (by omega) ((tree3 m hm).trans ey) L2.length
    have a3 := a1.2 (a2.1 ((w3.mem_vars (by omega)).2 ⟨hr, kx⟩))
    have := (vars_root hsi.wf (by rw [Mem.st_len]; exact hm) a3).2.2
    rw [Mem.st_len] at this; omega
  have hnin : L2.length ∉ (L2 ++ [varN low]).st.all n := fun h => hno n hn ((w3.mem_all (by omega)).1 h)
  have lkx : (L2 ++ [varN low]).st.link L2.length = none := by rw [St.link, ndx]
  have lkn : (L2 ++ [varN low]).st.link n = none := by have := w3.root_link n; rwa [rn] at this
  obtain ⟨hwl, h4, hlv⟩ := h3.link (x := L2.length) (y := n) (by omega) (by omega) lkx kx lkn hnin
  have treeL : ∀ m, m < L2.length → ((L2 ++ [varN low]).st.lk L2.length n).tree m = L2.st.tree m := fun m hm => by
    rw [tree_lk w3 hwl (by omega) lkx lkn (by omega) m (by omega) (hno m hm), tree3 m hm]
  refine ⟨h3, rx, kx, rn, hnin, h4, fun m hm => by rw [hlv.tree, treeL m hm], fun z hz => ?_⟩
  have hv : ∀ w ∈ ((L2 ++ [varN low]).st.lk L2.length n).vars n, w < (mkL (setLk (mkL (L2 ++ [varN low]) (rd + 1) ((L2 ++ [varN low]).st.all n)) L2.length n) (rd + 2) (((L2 ++ [varN low]).st.lk L2.length n).all n)).length := fun w hw => by
    have := (vars_root hwl (by rw [St.lk_len]; omega) hw).2.2
    rw [mkL_len, setLk_len, mkL_len]; rw [St.lk_len] at this; omega
  have e := lowL_level (lv := ((L2 ++ [varN low]).st.nd L2.length).level) _ _ hv z
  rw [mkL_st, setLk_st, mkL_st] at e
  have ez : ((L2 ++ [varN low]).st.lk L2.length n).nd z = L2.st.nd z := by
    rw [St.nd_lk (r := L2.length) (by omega), if_neg (by omega), st3, St.nd_app (by rw [Mem.st_len]; exact hz)]
  rw [linkM, e, ez, ndx]
  obtain ⟨y, ey, _, _⟩ := hsi.wf.tree_T (by rw [Mem.st_len]; omega) n (by rw [Mem.st_len]; exact hn)
  have a1 := vars_has hsi.wf (by rw [Mem.st_len]; omega) (by rw [Mem.st_len]; exact hn) ey z
  have a2 := vars_has hwl (by rw [St.lk_len]; omega) (by rw [St.lk_len]; omega) ((treeL n hn).trans ey) z
  simp only [a1, a2]

end Go.Proofs.Ytdngjamjccjlmaa
