/- The executor on code, and calls by abstract values: rules. Condition: the executor's table of types is the program's; the constants are of their types. -/
import Derived.Test.YtcpfjabjonpdaaaAbH
set_option linter.unusedSimpArgs false
namespace Go.Ab
open Go.RowKit (Below)

def cutNormal (K : Exit → AState → Prop) (next : AState → Prop) : Exit → AState → Prop
  | .normal, s => next s
  | e, s => K e s

def inBlk (id : Nat) (K : Exit → AState → Prop) : Exit → AState → Prop
  | .exit i, s => if i = id then K .normal s else K (.exit i) s
  | e, s => K e s

/-- A loop, from the beginning of a round on. -/
def ALoop (P : Program) (b : Code) (Q : Exit → AState → Prop) (s : AState) : Prop :=
  ∀ V a w, Rel V a w s → ∀ bf k cs, ∃ e a' w', (∃ V' s', V.LeB s.b V' ∧ Below V.base w w' ∧ Rel V' a' w' s' ∧ s'.n = s.n ∧ s'.b = s.b ∧ Q e s') ∧
    Arrives P (lone (bf.at a (.code b :: .inLoop b :: k)) cs w) bf k cs e a' w'

/-- The executor. -/
def X (P : Program) (C : Cfg) : Code → (Exit → AState → Prop) → AState → Prop
  | .skip, K, s => K .normal s
  | .region _ ops false, K, s => xops P C ops ops.toList (K .normal) s
  | .seq x y, K, s => X P C x (cutNormal K (X P C y K)) s
  | .cond c x y, K, s => match s.ev c with
    | .bool t => if t = true then X P C x K s else X P C y K s
    | _ => False
  | .block id b, K, s => X P C b (inBlk id K) s
  | .loop b, K, s => ALoop P b K s
  | .exit id, K, s => K (.exit id) s
  | .ret, K, s => K .ret s
  | c, K, s => AWp P c K s

/-- What a text's constants and slots must be. -/
def codeOK (n : Nat) : Code → Bool
  | .region _ ops _ => ops.toList.all fun o => operOK o && dstOK n o
  | .seq x y => codeOK n x && codeOK n y
  | .cond c x y => opndOK c && codeOK n x && codeOK n y
  | .block _ b => codeOK n b
  | _ => true

section
variable {P : Program} {C : Cfg} {s : AState}

theorem AWp.mono {c : Code} {Q Q' : Exit → AState → Prop} (h : AWp P c Q s) (hq : ∀ e s', s'.n = s.n → s'.b = s.b → Q e s' → Q' e s') : AWp P c Q' s :=
  fun V a w hr => wp_mono (h V a w hr) fun _ _ _ ⟨V', s', h1, h2, h3, h4, h4b, h5⟩ => ⟨V', s', h1, h2, h3, h4, h4b, hq _ _ h4 h4b h5⟩

theorem awp_seq {x y : Code} {Q : Exit → AState → Prop} (h : AWp P x (cutNormal Q fun s' => AWp P y Q s') s) : AWp P (.seq x y) Q s := by
  intro V a w hr
  refine wp_seq (wp_mono (h V a w hr) fun e a' w' => ?_)
  rintro ⟨V', s', h1, h2, h3, h4, h4b, h5⟩
  cases e with
  | normal =>
    refine wp_mono (h5 V' a' w' h3) fun e a'' w'' => ?_
    rintro ⟨V'', s'', g1, g2, g3, g4, g4b, g5⟩
    exact ⟨V'', s'', h1.trans (by rw [← h4b]; exact g1), h2.trans (by rw [← h1.base]; exact g2), g3, g4.trans h4, g4b.trans h4b, g5⟩
  | _ => exact ⟨V', s', h1, h2, h3, h4, h4b, h5⟩

theorem awp_cond {c : Operand} {x y : Code} {t : Bool} {Q : Exit → AState → Prop} (hc : s.ev c = .bool t) (hk : opndOK c = true) (h : AWp P (if t = true then x else y) Q s) : AWp P (.cond c x y) Q s := by
  intro V a w hr
  have hrc := ev_rep hr c hk
  rw [hc] at hrc
  generalize hv : a.eval c = v at hrc
  cases hrc
  exact wp_cond hv (h V a w hr)

theorem awp_block {id : Nat} {b : Code} {Q : Exit → AState → Prop} (h : AWp P b (inBlk id Q) s) : AWp P (.block id b) Q s := by
  intro V a w hr
  refine wp_block (wp_mono (h V a w hr) fun e a' w' => ?_)
  rintro ⟨V', s', h1, h2, h3, h4, h4b, h5⟩
  cases e with
  | exit i =>
    simp only [Exit.inBlock]
    simp only [inBlk] at h5
    split
    · rename_i hi; rw [if_pos hi] at h5; exact ⟨V', s', h1, h2, h3, h4, h4b, h5⟩
    · rename_i hi; rw [if_neg hi] at h5; exact ⟨V', s', h1, h2, h3, h4, h4b, h5⟩
  | _ => exact ⟨V', s', h1, h2, h3, h4, h4b, h5⟩

theorem awp_loop {b : Code} {Q : Exit → AState → Prop} (h : ALoop P b Q s) : AWp P (.loop b) Q s := by
  intro V a w hr bf k cs
  obtain ⟨e, a', w', hp, harr⟩ := h V a w hr bf k cs
  exact ⟨e, a', w', hp, .of_steps (.one step_loop) harr⟩

/-- A round, and the loop again behind it. -/
theorem aloop_round {b : Code} {Q : Exit → AState → Prop} (h : AWp P b (cutNormal Q (ALoop P b Q)) s) : ALoop P b Q s := by
  intro V a w hr bf k cs
  obtain ⟨e, a₁, w₁, ⟨V', s', h1, h2, h3, h4, h4b, h5⟩, harr⟩ := h V a w hr bf (.inLoop b :: k) cs
  cases e with
  | normal =>
    obtain ⟨e₂, a₂, w₂, ⟨V'', s'', g1, g2, g3, g4, g4b, g5⟩, harr₂⟩ := h5 V' a₁ w₁ h3 bf k cs
    exact ⟨e₂, a₂, w₂, ⟨V'', s'', h1.trans (by rw [← h4b]; exact g1), h2.trans (by rw [← h1.base]; exact g2), g3, g4.trans h4, g4b.trans h4b, g5⟩, .of_steps (Steps.trans harr (.one step_inLoop)) harr₂⟩
  | exit id => exact ⟨_, a₁, w₁, ⟨V', s', h1, h2, h3, h4, h4b, h5⟩, .pass (x := .inLoop b) rfl (fun _ _ => .inl (by simp)) harr⟩
  | goto l => exact ⟨_, a₁, w₁, ⟨V', s', h1, h2, h3, h4, h4b, h5⟩, .pass (x := .inLoop b) rfl (fun _ _ => .inl (by simp)) harr⟩
  | ret => exact ⟨_, a₁, w₁, ⟨V', s', h1, h2, h3, h4, h4b, h5⟩, .pass (x := .inLoop b) rfl (fun _ _ => .inl (by simp)) harr⟩
  | panic ch => exact ⟨_, a₁, w₁, ⟨V', s', h1, h2, h3, h4, h4b, h5⟩, .pass (x := .inLoop b) rfl (fun _ _ => .inl (by simp)) harr⟩
  | outgrown => exact ⟨_, a₁, w₁, ⟨V', s', h1, h2, h3, h4, h4b, h5⟩, .pass (x := .inLoop b) rfl (fun _ _ => .inl (by simp)) harr⟩

theorem X_sound (hC : CfgOK P C) (hg : ∀ g args s K, CallK P g args s K → FnOK P g) (n : Nat) : ∀ (c : Code) {K : Exit → AState → Prop} {s : AState}, codeOK n c = true → s.n = n → X P C c K s → AWp P c K s
  | .skip, K, s, _, hn, h => fun V a w hr => wp_skip ⟨V, s, .refl _ V, .refl _ _, hr, rfl, rfl, h⟩
  | .region id ops false, K, s, hok, hn, h => by
    intro V a w hr
    simp only [codeOK, List.all_eq_true, Bool.and_eq_true] at hok
    simp only [X] at h
    refine wp_region ?_
    rw [hn]
    refine xops_sound hC hg hok (List.range ops.size) (V0 := V) (w0 := w) hn rfl hr (.refl _ V) (.refl _ _) ?_
    rw [filterMap_range]; exact h
  | .region id ops true, K, s, hok, hn, h => by simpa [X] using h
  | .seq x y, K, s, hok, hn, h => by
    simp only [codeOK, Bool.and_eq_true] at hok
    simp only [X] at h
    refine awp_seq ((X_sound hC hg n x hok.1 hn h).mono fun e s' hs' _ hq => ?_)
    cases e with
    | normal => exact X_sound hC hg n y hok.2 (hs'.trans hn) hq
    | _ => exact hq
  | .cond c x y, K, s, hok, hn, h => by
    simp only [codeOK, Bool.and_eq_true] at hok
    simp only [X] at h
    split at h
    · rename_i t hev
      refine awp_cond hev hok.1.1 ?_
      split at h
      · rename_i ht; rw [if_pos ht]; exact X_sound hC hg n x hok.1.2 hn h
      · rename_i ht; rw [if_neg ht]; exact X_sound hC hg n y hok.2 hn h
    · cases h
  | .block id b, K, s, hok, hn, h => by
    simp only [codeOK] at hok
    simp only [X] at h
    exact awp_block (X_sound hC hg n b hok hn h)
  | .loop b, K, s, _, _, h => awp_loop h
  | .exit id, K, s, _, hn, h => fun V a w hr => wp_exit ⟨V, s, .refl _ V, .refl _ _, hr, rfl, rfl, h⟩
  | .ret, K, s, _, hn, h => fun V a w hr => wp_ret ⟨V, s, .refl _ V, .refl _ _, hr, rfl, rfl, h⟩
  | .rangeFunc _ _ _ _, K, s, _, _, h => h
  | .scope _, K, s, _, _, h => h
  | .label _, K, s, _, _, h => h
  | .goto _, K, s, _, _, h => h
  | .refuse _, K, s, _, _, h => h

/-- Less is known; local objects from a number on are forgotten. -/
structure Weak (s s' : AState) : Prop where
  n : s'.n = s.n
  b : s'.b = s.b
  H : s'.H = s.H
  L : s'.L = s.L.take s'.L.length
  env : ∀ t, s'.env t = .any ∨ s'.env t = s.env t ∨ s'.env t = (s.env t).norm
  below : s'.L.length = s.L.length ∨ ((∀ t, (s'.env t).bel (s.b + s'.L.length) = true) ∧ ∀ x ∈ s'.L, x.bel (s.b + s'.L.length) = true)

mutual
theorem bel_mono {m m' : Nat} (h : m ≤ m') : ∀ a : AV, a.bel m = true → a.bel m' = true
  | .any, _ => rfl
  | .int _ _, _ => rfl
  | .bool _, _ => rfl
  | .str _, _ => rfl
  | .nilp, _ => rfl
  | .agg cs, k => belL_mono h cs k
  | .tup cs, k => belL_mono h cs k
  | .sl es t, k => by
    simp only [AV.bel, Bool.and_eq_true] at k ⊢
    refine ⟨belL_mono h es k.1, ?_⟩
    cases t with
    | own r => have := k.2; simp at this ⊢; omega
    | _ => rfl
  | .eptr e _, k => belL_mono h e k
  | .bptr r _, k => by simp [AV.bel] at k ⊢; omega
  | .ms r _ _, k => by simp [AV.bel] at k ⊢; omega
  | .aptr r _ _ _ _, k => by simp [AV.bel] at k ⊢; omega
  | .mp r, k => by simp [AV.bel] at k ⊢; omega
  | .nilm, _ => rfl
  | .fn _, _ => rfl
  | .nilf, _ => rfl
theorem belL_mono {m m' : Nat} (h : m ≤ m') : ∀ l : List AV, AV.belL m l = true → AV.belL m' l = true
  | [], _ => rfl
  | a :: as, k => by
    simp only [AV.belL, Bool.and_eq_true] at k ⊢
    exact ⟨bel_mono h a k.1, belL_mono h as k.2⟩
end

theorem AObj.bel_mono {m m' : Nat} (h : m ≤ m') {x : AObj} (k : x.bel m = true) : x.bel m' = true := by
  cases x with
  | box cs => exact belL_mono h cs k
  | arr v z es => exact belL_mono h es k
  | map es =>
    simp only [AObj.bel, Bool.and_eq_true] at k ⊢
    exact ⟨belL_mono h _ k.1, belL_mono h _ k.2⟩
  | _ => rfl

theorem Rel.weak {V : View} {a : Act} {w : World} {s s' : AState} (hr : Rel V a w s) (h : Weak s s') : ∃ V', V.LeB s.b V' ∧ Rel V' a w s' := by
  have hlen : s'.L.length ≤ s.L.length := by
    have := congrArg List.length h.L
    simp only [List.length_take] at this
    omega
  have hobj : ∀ r, r < s.b + s'.L.length → s'.obj r = s.obj r := by
    intro r hlt
    unfold AState.obj
    rw [h.b, h.H]
    split
    · rfl
    · rename_i hnb
      rw [h.L, List.getElem?_take, if_pos (by omega)]
  have hnone : ∀ r, ¬ r < s.b + s'.L.length → s'.obj r = none := by
    intro r hlt
    unfold AState.obj
    rw [h.b, if_neg (by omega)]
    exact List.getElem?_eq_none (by omega)
  rcases h.below with heq | ⟨henv, hL⟩
  · have hsame : s'.obj = s.obj := by
      funext r
      by_cases hlt : r < s.b + s'.L.length
      · exact hobj r hlt
      · rw [hnone r hlt]
        unfold AState.obj
        rw [if_neg (by omega)]
        exact (List.getElem?_eq_none (by omega)).symm
    refine ⟨V, .refl _ V, ⟨by rw [h.b, h.H]; exact hr.hb, by rw [h.b, h.H]; exact hr.bel, by rw [hsame]; exact hr.inv, by rw [h.n]; exact hr.size, hr.defers, fun t => ?_⟩⟩
    rcases h.env t with he | he | he <;> rw [he]
    · exact .any _
    · exact hr.env t
    · exact (hr.env t).normed
  · refine ⟨V.cut (s.b + s'.L.length), ⟨rfl, fun _ _ _ h => h, fun r n x hlt hx => by simp only [View.cut]; rw [if_pos (by omega)]; exact hx⟩,
      ⟨by rw [h.b, h.H]; exact hr.hb, by rw [h.b, h.H]; exact hr.bel, hr.inv.cut hobj hnone ?_, by rw [h.n]; exact hr.size, hr.defers, fun t => ?_⟩⟩
    · intro r x hlt hx
      by_cases hb : r < s.b
      · refine AObj.bel_mono (Nat.le_add_right _ _) (hr.bel x ?_)
        unfold AState.obj at hx
        rw [if_pos hb] at hx
        exact List.mem_of_getElem? hx
      · refine hL x ?_
        rw [← hobj r hlt] at hx
        unfold AState.obj at hx
        rw [h.b, if_neg hb] at hx
        exact List.mem_of_getElem? hx
    · have hb := henv t
      rcases h.env t with he | he | he <;> rw [he] at hb ⊢
      · exact .any _
      · exact (hr.env t).cut hb
      · exact (hr.env t).normed.cut hb

theorem AWp.weak {c : Code} {Q : Exit → AState → Prop} {s' : AState} (h : Weak s s') (k : AWp P c Q s') : AWp P c Q s := by
  intro V a w hr
  obtain ⟨V1, h1, hr1⟩ := hr.weak h
  refine wp_mono (k V1 a w hr1) fun e a' w' => ?_
  rintro ⟨V', s'', g1, g2, g3, g4, g5, g6⟩
  exact ⟨V', s'', h1.trans (by rw [← h.b]; exact g1), by rw [← h1.base]; exact g2, g3, g4.trans h.n, g5.trans h.b, g6⟩

theorem ALoop.weak {b : Code} {Q : Exit → AState → Prop} {s' : AState} (h : Weak s s') (k : ALoop P b Q s') : ALoop P b Q s := by
  intro V a w hr bf kk cs
  obtain ⟨V1, h1, hr1⟩ := hr.weak h
  obtain ⟨e, a', w', ⟨V', s'', g1, g2, g3, g4, g5, g6⟩, harr⟩ := k V1 a w hr1 bf kk cs
  exact ⟨e, a', w', ⟨V', s'', h1.trans (by rw [← h.b]; exact g1), by rw [← h1.base]; exact g2, g3, g4.trans h.n, g5.trans h.b, g6⟩, harr⟩

/-- A loop, by an invariant with a measure: S: the states at a round's beginning, by a parameter. -/
theorem aloop_inv {ι : Type} (S : ι → AState) (I : ι → Prop) (μ : ι → Nat) {b : Code} {Q : Exit → AState → Prop} (hC : CfgOK P C) (hg : ∀ g args s K, CallK P g args s K → FnOK P g)
    (x : ι) (hx : I x) (hs : Weak s (S x)) (hok : codeOK s.n b = true)
    (h : ∀ x, I x → X P C b (cutNormal Q fun s' => ∃ y, I y ∧ μ y < μ x ∧ Weak s' (S y)) (S x)) : ALoop P b Q s := by
  have key : ∀ m x, μ x = m → I x → (S x).n = s.n → ALoop P b Q (S x) := by
    intro m
    induction m using Nat.strongRecOn with
    | _ m ih =>
      intro x hm hx hn
      refine aloop_round ((X_sound hC hg s.n b hok hn (h x hx)).mono fun e s' hs' _ hq => ?_)
      cases e with
      | normal =>
        obtain ⟨y, hy1, hy2, hy3⟩ := hq
        exact ALoop.weak hy3 (ih (μ y) (by omega) y rfl hy1 (by rw [hy3.n, hs', hn]))
      | _ => exact hq
  exact ALoop.weak hs (key _ x rfl hx hs.n)

end
end Go.Ab
