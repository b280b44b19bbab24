/- Whatever operation the executor takes runs as the model's does: all in one. Condition: the executor's table of types is the program's; the constants are of their types. -/
import Derived.Test.YtcpfjabjonpdaaaAbE
set_option linter.unusedSimpArgs false
namespace Go.Ab
open Go.RowKit (Below)

section
variable {P : Program} {C : Cfg} {V : View} {w : World} {s : AState} {a : Act} {o : Oper}

theorem eff_sound (hC : CfgOK P C) (hr : Rel V a w s) {out : Out} (h : eff C o s = some out) (hc : out.c) (hok : operOK o = true) : OpSound P V a w s o out := by
  have hk : ∀ x ∈ o.op.operands.toList, opndOK x = true := List.all_eq_true.1 hok
  unfold eff at h
  split at h
  · -- move
    rename_i x hop
    simp only [Option.some.injEq] at h; subst h
    exact .val hr (by simp only [execOp, hop]; rfl) (ev_rep hr x (hk x (by simp [hop, Op.operands])))
  · rename_i x hop
    simp only [Option.some.injEq] at h; subst h
    exact .val hr (by simp only [execOp, hop]; rfl) (ev_rep hr x (hk x (by simp [hop, Op.operands])))
  · -- pick
    rename_i c x y hop
    have hrc := ev_rep hr c (hk c (by simp [hop, Op.operands]))
    split at h
    case h_2 => cases h
    rename_i t hev
    rw [hev] at hrc
    simp only [Option.some.injEq] at h; subst h
    generalize hvc : a.eval c = vc at hrc
    cases hrc
    refine .val hr (u := if t then a.eval x else a.eval y) ?_ ?_
    · simp only [execOp, hop, hvc, asBool, Sem.run_bind, Sem.run_pure, Result.andThen_ok]
    · cases t
      · exact ev_rep hr y (hk y (by simp [hop, Op.operands]))
      · exact ev_rep hr x (hk x (by simp [hop, Op.operands]))
  · -- alloc
    rename_i t hop
    split at h
    case h_2 => cases h
    rename_i l hT
    simp only [Option.some.injEq] at h; subst h
    exact snd_alloc hC hr hT hop
  · rename_i t x hop
    simp only [Option.some.injEq] at h; subst h
    exact snd_box hr (hk x (by simp [hop, Op.operands])) hc hop
  · -- load
    rename_i t x hop
    split at h
    case h_2 => cases h
    rename_i l cs off c hT hcs
    simp only [Option.some.injEq] at h; subst h
    exact snd_load hC hr (hk x (by simp [hop, Op.operands])) hT hcs hc hop
  · -- store
    rename_i t p x hop
    split at h
    case h_2 => cases h
    rename_i l hT
    split at h
    · rename_i r off hev
      split at h
      case h_2 => cases h
      rename_i cs ho
      simp only [Option.some.injEq] at h; subst h
      exact snd_store_box hC hr (hk p (by simp [hop, Op.operands])) (hk x (by simp [hop, Op.operands])) hT hev ho hc hop
    · rename_i r ver size i off hev
      split at h
      case h_2 => cases h
      rename_i v' sz es ho
      simp only [Option.some.injEq] at h; subst h
      exact snd_store_arr hC hr (hk p (by simp [hop, Op.operands])) (hk x (by simp [hop, Op.operands])) hT hev ho hc hop
    · cases h
  · -- nilCheck
    rename_i x hop
    have hrx := ev_rep hr x (hk x (by simp [hop, Op.operands]))
    generalize hv : a.eval x = v at hrx
    split at h
    · rename_i r k hev
      rw [hev] at hrx
      simp only [Option.some.injEq] at h; subst h
      have hrx' := hrx
      cases hrx
      exact .val hr (by simp only [execOp, hop, hv, Sem.run_pure]) hrx'
    · rename_i e k hev
      rw [hev] at hrx
      simp only [Option.some.injEq] at h; subst h
      have hrx' := hrx
      cases hrx
      exact .val hr (by simp only [execOp, hop, hv, Sem.run_pure]) hrx'
    · rename_i r v z i k hev
      rw [hev] at hrx
      simp only [Option.some.injEq] at h; subst h
      have hrx' := hrx
      cases hrx
      exact .val hr (by simp only [execOp, hop, hv, Sem.run_pure]) hrx'
    · cases h
  · -- binOp
    rename_i op t x y yt hop
    split at h
    case h_2 => cases h
    rename_i l hT
    split at h
    case h_2 => cases h
    rename_i c v hab
    simp only [Option.some.injEq] at h; subst h
    exact snd_bin hC hr (hk x (by simp [hop, Op.operands])) (hk y (by simp [hop, Op.operands])) hT hab hc hop
  · -- unOp
    rename_i op t x hop
    split at h
    · rename_i b hev
      simp only [Option.some.injEq] at h; subst h
      exact snd_un hr (hk x (by simp [hop, Op.operands])) (.inl ⟨b, rfl, hev, rfl⟩) hop
    · rename_i k n hev
      simp only [Option.some.injEq] at h; subst h
      exact snd_un hr (hk x (by simp [hop, Op.operands])) (.inr ⟨k, n, rfl, hev, rfl⟩) hop
    · cases h
  · -- convert
    rename_i src dst x hop
    split at h
    case h_2 => cases h
    rename_i ls k z1 z2 z3 k' n h1 h2 hev
    simp only [Option.some.injEq] at h; subst h
    exact snd_conv hC hr (hk x (by simp [hop, Op.operands])) h1 h2 rfl hev hop
  · -- fieldAddr
    rename_i t x f hop
    split at h
    case h_2 => cases h
    rename_i fs z1 z2 z3 hT
    split at h
    case h_2 => cases h
    rename_i k ft hf
    split at h
    case h_2 => cases h
    rename_i lf v hlf hs
    simp only [Option.some.injEq] at h; subst h
    exact snd_fieldAddr hC hr (hk x (by simp [hop, Op.operands])) hT rfl hf hlf hs hop
  · -- field
    rename_i t x f hop
    split at h
    case h_2 => cases h
    rename_i fs z1 z2 z3 hT
    split at h
    case h_2 => cases h
    rename_i k ft cs hf hev
    split at h
    case h_2 => cases h
    rename_i lf hlf
    simp only [Option.some.injEq] at h; subst h
    exact snd_field hC hr (hk x (by simp [hop, Op.operands])) hT rfl hf hlf hev hc hop
  · -- indexAddr
    rename_i t x i hop
    split at h
    · rename_i e z1 z2 z3 hT
      split at h
      · rename_i le es tk k n hle hev hev2
        simp only [Option.some.injEq] at h; subst h
        exact snd_indexAddr_sl hC hr (hk x (by simp [hop, Op.operands])) (hk i (by simp [hop, Op.operands])) hT rfl hle hev hev2 hc hop
      · rename_i le r ver len k n hle hev hev2
        simp only [Option.some.injEq] at h; subst h
        exact snd_indexAddr_ms hC hr (hk x (by simp [hop, Op.operands])) (hk i (by simp [hop, Op.operands])) hT rfl hle hev hev2 hc hop
      · cases h
    · rename_i n e z1 z2 z3 hT
      split at h
      case h_2 => cases h
      rename_i le k q hle hev2
      split at h
      case h_2 => cases h
      rename_i v hs
      simp only [Option.some.injEq] at h; subst h
      exact snd_indexAddr_arr hC hr (hk x (by simp [hop, Op.operands])) (hk i (by simp [hop, Op.operands])) hT rfl hle hev2 hs hc hop
    · cases h
  · -- index
    rename_i t x i hop
    split at h
    case h_2 => cases h
    rename_i n e z1 z2 z3 hT
    split at h
    case h_2 => cases h
    rename_i le cs k q hle hev hev2
    simp only [Option.some.injEq] at h; subst h
    exact snd_index_arr hC hr (hk x (by simp [hop, Op.operands])) (hk i (by simp [hop, Op.operands])) hT rfl hle hev hev2 hc hop
  · -- build
    rename_i t parts hop
    have hps : ∀ p ∈ parts.toList, opndOK p.2 = true := fun p hp => hk p.2 (by simp only [hop, Op.operands]; simpa using ⟨p.1, by simpa using hp⟩)
    split at h
    · rename_i fs z1 z2 z hT
      split at h
      case h_2 => cases h
      rename_i c cs hf
      simp only [Option.some.injEq] at h; subst h
      exact snd_build_st hC hr hps hT rfl hf hc hop
    · rename_i n e z1 z2 z hT
      split at h
      case h_2 => cases h
      rename_i le hle
      split at h
      case h_2 => cases h
      rename_i c cs hf
      simp only [Option.some.injEq] at h; subst h
      exact snd_build_arr hC hr hps hT rfl hle hf hc hop
    · cases h
  · -- buildSlice
    rename_i t len parts hop
    have hps : ∀ p ∈ parts.toList, opndOK p.2 = true := fun p hp => hk p.2 (by simp only [hop, Op.operands]; simpa using ⟨p.1, by simpa using hp⟩)
    split at h
    case h_2 => cases h
    rename_i e z1 z2 z hT
    split at h
    case h_2 => cases h
    rename_i le hle
    split at h
    · simp only [Option.some.injEq] at h; subst h
      exact (snd_buildSlice hC hr hps hT rfl hle hc hop).2
    · simp only [Option.some.injEq] at h; subst h
      exact (snd_buildSlice hC hr hps hT rfl hle hc hop).1
  · -- makeSlice
    rename_i t n c hop
    split at h
    case h_2 => cases h
    rename_i e z1 z2 z n' c' hT hev hev2
    split at h
    case h_2 => cases h
    rename_i le hle
    split at h
    · simp only [Option.some.injEq] at h; subst h
      exact (snd_makeSlice hC hr (hk n (by simp [hop, Op.operands])) (hk c (by simp [hop, Op.operands])) hT rfl hle hev hev2 hc hop).2
    · simp only [Option.some.injEq] at h; subst h
      exact (snd_makeSlice hC hr (hk n (by simp [hop, Op.operands])) (hk c (by simp [hop, Op.operands])) hT rfl hle hev hev2 hc hop).1
  · -- slice
    rename_i t x lo hi mx hop
    split at h
    case h_2 => cases h
    rename_i e z1 z2 z hT
    split at h
    case h_2 => cases h
    rename_i le hle
    exact snd_slice hC hr (hk x (by simp [hop, Op.operands])) (fun y hy => hk y (by simp [hop, Op.operands, hy])) (fun y hy => hk y (by simp [hop, Op.operands, hy])) (fun y hy => hk y (by simp [hop, Op.operands, hy])) hT rfl hle h hc hop
  · -- extract
    rename_i x i hop
    split at h
    case h_2 => cases h
    rename_i vs hev
    simp only [Option.some.injEq] at h; subst h
    exact snd_extract hr (hk x (by simp [hop, Op.operands])) hev hc hop
  · -- makeMap
    rename_i t hop
    simp only [Option.some.injEq] at h; subst h
    exact snd_makeMap hr hop
  · -- lookup
    rename_i t m k ok hop
    split at h
    case h_2 => cases h
    rename_i kt vt z1 z2 z hT
    split at h
    case h_2 => cases h
    rename_i lk lv r hlk hlv hev
    split at h
    case h_2 => cases h
    rename_i es ho
    split at h
    case h_2 => cases h
    rename_i f hf
    simp only [Option.some.injEq] at h; subst h
    exact snd_lookup hC hr (hk m (by simp [hop, Op.operands])) (hk k (by simp [hop, Op.operands])) hT rfl hlk hlv hev ho hf hc hop
  · -- mapUpdate
    rename_i t m k x hop
    split at h
    case h_2 => cases h
    rename_i kt vt z1 z2 z hT
    split at h
    case h_2 => cases h
    rename_i lk r hlk hev
    split at h
    case h_2 => cases h
    rename_i es ho
    split at h
    case h_2 => cases h
    rename_i f hf
    simp only [Option.some.injEq] at h; subst h
    exact snd_mapUpdate hC hr (hk m (by simp [hop, Op.operands])) (hk k (by simp [hop, Op.operands])) (hk x (by simp [hop, Op.operands])) hT rfl hlk hev ho hf hc (.inl hop)
  · -- builtins
    rename_i b args ts hop
    exact snd_builtin hC hr (fun x hx => hk x (by simp only [hop, Op.operands, Call.operands]; simpa using hx)) h hc hop
  · cases h

end
end Go.Ab
