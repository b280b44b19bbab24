/- Whatever operation the executor takes runs as the model's does. Condition: the executor's table of types is the program's; the constants are of their types. -/
import Derived.Test.YtcpfjabjonpdaaaAbD
set_option linter.unusedSimpArgs false
namespace Go.Ab
open Go.RowKit (Below)

section
variable {P : Program} {C : Cfg} {V : View} {w : World} {s : AState} {a : Act} {o : Oper}

theorem exec_builtin {b : Builtin} {args : Array Operand} {ts : Array Nat} (hop : o.op = .call { callee := .builtin b, args := args, argTypes := ts }) :
    ∃ cst, (execOp a.eval o).run P w = (Go.builtin b ts o.type cst (args.map a.eval)).run P w := by
  simp only [execOp, hop, resolve, invoke, Sem.run_bind, Sem.run_pure, Result.andThen_ok]
  exact ⟨_, rfl⟩

theorem len1 {α : Type} {l : List α} (h : l.length = 1) : ∃ x, l = [x] := List.length_eq_one_iff.1 h
theorem len2 {α : Type} {l : List α} (h : l.length = 2) : ∃ x y, l = [x, y] := by
  match l, h with
  | [x, y], _ => exact ⟨x, y, rfl⟩

theorem arr_len_le {V : View} {u : Value} {r ver n : Nat} (h : Rep V u (.ms r ver n)) : n ≤ maxLen := by
  cases h with
  | ms _ _ _ blk cap h hc hm hn => omega

theorem snd_builtin (hC : CfgOK P C) (hr : Rel V a w s) {inpl : Bool} {b : Builtin} {args : Array Operand} {ts : Array Nat} {out : Out} (ho : ∀ x ∈ args.toList, opndOK x = true)
    (h : effBuiltin C inpl s b ts.toList (args.toList.map s.ev) = some out) (hc : out.c) (hop : o.op = .call { callee := .builtin b, args := args, argTypes := ts }) : OpSound P V a w s o out := by
  obtain ⟨cst, hex⟩ := exec_builtin (P := P) (w := w) (a := a) hop
  have hargs : ∀ l : List AV, args.toList.map s.ev = l → ∃ vs : List Value, args.toList.map a.eval = vs ∧ RepL V vs l := by
    intro l hl
    subst hl
    refine ⟨_, rfl, RepL.of_get (by simp) fun i v x hv hx => ?_⟩
    rw [List.getElem?_map, Option.map_eq_some_iff] at hv hx
    obtain ⟨y, hy, rfl⟩ := hv
    obtain ⟨y', hy', rfl⟩ := hx
    rw [hy] at hy'
    cases hy'
    exact ev_rep hr _ (ho y (List.mem_of_getElem? hy))
  have hm : args.map a.eval = (args.toList.map a.eval).toArray := by rw [← Array.toList_map]
  rw [hm] at hex
  have hone : ∀ {t : Nat}, ts.toList = [t] → ts = #[t] := fun h => Array.ext' h
  unfold effBuiltin at h
  split at h
  · -- len of an immutable slice
    rename_i t es tk ht harg
    split at h
    case h_2 => cases h
    rename_i e z1 z2 z3 hty
    simp only [Option.some.injEq] at h; subst h
    obtain ⟨vs, hvs, hrl⟩ := hargs _ harg
    rw [hvs, hone ht] at hex
    obtain ⟨d, hd, hdd⟩ := (hC _ _ hty).desc
    simp only [DescOK] at hdd; subst hdd
    obtain ⟨v, rfl⟩ := len1 hrl.1
    have hv := hrl.2 0 (by simp)
    simp only [List.getD_cons_zero] at hv
    cases hv with
    | sl bse len cap _ _ size b q val hl hcap hm hb hs himm hrr ht hf =>
      refine .val hr (u := .int .i64 len) ?_ (by rw [hl]; exact rep_int64 (by omega))
      rw [hex]
      simp [Go.builtin, Builtin.len_, Go.run_underlying hd, goInt]
  · rename_i t r ver n ht harg
    split at h
    case h_2 => cases h
    rename_i e z1 z2 z3 hty
    simp only [Option.some.injEq] at h; subst h
    obtain ⟨vs, hvs, hrl⟩ := hargs _ harg
    rw [hvs, hone ht] at hex
    obtain ⟨d, hd, hdd⟩ := (hC _ _ hty).desc
    simp only [DescOK] at hdd; subst hdd
    obtain ⟨v, rfl⟩ := len1 hrl.1
    have hv := hrl.2 0 (by simp)
    simp only [List.getD_cons_zero] at hv
    have hle := arr_len_le hv
    cases hv with
    | ms _ _ _ blk cap hl hcap hm hn =>
      refine .val hr (u := .int .i64 n) ?_ (rep_int64 hle)
      rw [hex]
      simp [Go.builtin, Builtin.len_, Go.run_underlying hd, goInt]
  · rename_i t x ht harg
    split at h
    case h_2 => cases h
    rename_i z1 z2 z3 hty
    simp only [Option.some.injEq] at h; subst h
    obtain ⟨vs, hvs, hrl⟩ := hargs _ harg
    rw [hvs, hone ht] at hex
    obtain ⟨d, hd, hdd⟩ := (hC _ _ hty).desc
    simp only [DescOK] at hdd; subst hdd
    obtain ⟨v, rfl⟩ := len1 hrl.1
    have hv := hrl.2 0 (by simp)
    simp only [List.getD_cons_zero] at hv
    cases hv with
    | str _ hb =>
      refine .val hr (u := .int .i64 x.size) ?_ (rep_int64 hb)
      rw [hex]
      simp [Go.builtin, Builtin.len_, Go.run_underlying hd, goInt]
  · rename_i t r ht harg
    split at h
    case h_2 => cases h
    rename_i kk ee z1 z2 z3 es hty hob
    simp only [Option.some.injEq] at h; subst h
    obtain ⟨vs, hvs, hrl⟩ := hargs _ harg
    rw [hvs, hone ht] at hex
    obtain ⟨d, hd, hdd⟩ := (hC _ _ hty).desc
    simp only [DescOK] at hdd; subst hdd
    obtain ⟨v, rfl⟩ := len1 hrl.1
    have hv := hrl.2 0 (by simp)
    simp only [List.getD_cons_zero] at hv
    cases hv with
    | mp _ b c hl =>
      obtain ⟨entries, clock, hg, hbase, hmap, himm⟩ := map_obj hr.toW hob hl
      have hlen : entries.size = es.length := by simpa using hmap.1
      refine .val hr (u := .int .i64 es.length) ?_ (rep_int64 hc)
      rw [hex]
      simp [Go.builtin, Builtin.len_, Go.run_underlying hd, goInt, run_getObj hg, hlen]
  · -- append
    rename_i t t' av xv ht harg
    split at h
    case isFalse => cases h
    rename_i htt
    subst htt
    obtain ⟨vs, hvs, hrl⟩ := hargs _ harg
    rw [hvs] at hex
    have htse : ts = #[t, t] := by
      exact Array.ext' ht
    subst htse
    obtain ⟨va, vx, rfl⟩ := len2 hrl.1
    have h1 := hrl.2 0 (by simp)
    have h2 := hrl.2 1 (by simp)
    simp only [List.getD_cons_zero, List.getD_cons_succ] at h1 h2
    obtain ⟨u, w', V', g1, g2, g3, g4, g5, g6, g7, g8⟩ := append_sound (ty := o.type) hC hr.toW h1 h2 h hc
    refine ⟨.value u, w', V', ?_, g2, g3, g4, g5, g6, g7, .inl ⟨u, rfl, g8⟩⟩
    rw [hex]
    simp only [Go.builtin, Sem.run_bind, g1, Result.andThen_ok, Sem.run_pure]
  · rename_i k x k' y harg
    split at h
    case isFalse => cases h
    rename_i hk
    subst hk
    simp only [Option.some.injEq] at h; subst h
    obtain ⟨vs, hvs, hrl⟩ := hargs _ harg
    rw [hvs] at hex
    obtain ⟨va, vx, rfl⟩ := len2 hrl.1
    have h1 := hrl.2 0 (by simp)
    have h2 := hrl.2 1 (by simp)
    simp only [List.getD_cons_zero, List.getD_cons_succ] at h1 h2
    cases h1 with
    | int _ _ p1 p2 =>
    cases h2 with
    | int _ _ p3 p4 =>
      refine .val hr (u := .int k (if y > x then y else x)) ?_ (by split <;> exact .int _ _ (by assumption) (by assumption))
      rw [hex]
      simp [Go.builtin, Builtin.max_, Builtin.max2]
  · rename_i k x k' y harg
    split at h
    case isFalse => cases h
    rename_i hk
    subst hk
    simp only [Option.some.injEq] at h; subst h
    obtain ⟨vs, hvs, hrl⟩ := hargs _ harg
    rw [hvs] at hex
    obtain ⟨va, vx, rfl⟩ := len2 hrl.1
    have h1 := hrl.2 0 (by simp)
    have h2 := hrl.2 1 (by simp)
    simp only [List.getD_cons_zero, List.getD_cons_succ] at h1 h2
    cases h1 with
    | int _ _ p1 p2 =>
    cases h2 with
    | int _ _ p3 p4 =>
      refine .val hr (u := .int k (if y < x then y else x)) ?_ (by split <;> exact .int _ _ (by assumption) (by assumption))
      rw [hex]
      simp [Go.builtin, Builtin.min_, Builtin.min2]
  · cases h

end
end Go.Ab
