/- The executor's operations run as the model's do: slices, maps, builtins. Condition: the executor's table of types is the program's. -/
import Derived.Test.YtcpfjabjonpdaaaAbA
set_option linter.unusedSimpArgs false
namespace Go.Ab
open Go.RowKit (Below)

section
variable {P : Program} {C : Cfg} {V : View} {w : World} {s : AState} {a : Act} {o : Oper}

theorem snd_bin (hC : CfgOK P C) (hr : Rel V a w s) {op : BinOp} {t yt : Nat} {x y : Operand} {l : TL} {c : Prop} {v : AV} (hx : opndOK x = true) (hy : opndOK y = true) (hT : C.ty t = some l) (h : abin l.d op (s.ev x) (s.ev y) = some (c, v)) (hc : c)
    (hop : o.op = .binOp op t x y yt) : OpSound P V a w s o ⟨c, v, s⟩ := by
  obtain ⟨u, hu, hrep⟩ := run_bin (P := P) (w := w) op (hC _ _ hT) (ev_rep hr x hx) (ev_rep hr y hy) h hc
  have hg := run_eqGuard (P := P) (w := w) op (t := t) (x := x) (y := y) (ev_rep hr x hx) (ev_rep hr y hy) h
  refine .val hr (u := u) ?_ hrep
  simp only [execOp, hop, Sem.run_bind, hg, Result.andThen_ok, hu, Sem.run_pure]

theorem snd_un (hr : Rel V a w s) {op : UnOp} {t : Nat} {x : Operand} {v : AV} (hx : opndOK x = true) (h : (∃ b, op = .not ∧ s.ev x = .bool b ∧ v = .bool (!b)) ∨ (∃ k n, op = .neg ∧ s.ev x = .int k n ∧ v = .int k (k.wrap (0 - n))))
    (hop : o.op = .unOp op t x) : OpSound P V a w s o ⟨True, v, s⟩ := by
  have hrx := ev_rep hr x hx
  rcases h with ⟨b, rfl, hb, rfl⟩ | ⟨k, n, rfl, hn, rfl⟩
  · rw [hb] at hrx
    generalize hv : a.eval x = u at hrx
    cases hrx
    exact .val hr (u := .bool (!b)) (by simp only [execOp, hop, hv, Op.unary, Sem.run_bind, Sem.run_pure, Result.andThen_ok]) (.bool _)
  · rw [hn] at hrx
    generalize hv : a.eval x = u at hrx
    cases hrx
    exact .val hr (u := .int k (k.wrap (0 - n))) (by simp only [execOp, hop, hv, Op.unary, Op.intArith, Sem.run_bind, Sem.run_pure, Result.andThen_ok]) (rep_wrap _ _)

theorem snd_conv (hC : CfgOK P C) (hr : Rel V a w s) {src dst : Nat} {x : Operand} {ls ld : TL} {k k' : IntKind} {n : Int} (hx : opndOK x = true) (h1 : C.ty src = some ls) (h2 : C.ty dst = some ld) (hd : ld.d = .int k) (hn : s.ev x = .int k' n)
    (hop : o.op = .convert src dst x) : OpSound P V a w s o ⟨True, .int k (k.wrap n), s⟩ := by
  obtain ⟨d1, hd1, _⟩ := (hC _ _ h1).run_underlying w
  obtain ⟨d2, hd2, hdd⟩ := (hC _ _ h2).run_underlying w
  rw [hd] at hdd; simp only [DescOK] at hdd; subst hdd
  have hrx := ev_rep hr x hx
  rw [hn] at hrx
  generalize hv : a.eval x = u at hrx
  cases hrx
  refine .val hr (u := .int k (k.wrap n)) ?_ (rep_wrap _ _)
  simp only [execOp, hop, hv, convert, Sem.run_bind, hd1, hd2, Result.andThen_ok]
  cases d1 <;> simp [Conv.intToInt]

theorem snd_fieldAddr (hC : CfgOK P C) (hr : Rel V a w s) {t f : Nat} {x : Operand} {l lf : TL} {fs : List (Nat × Nat)} {k ft : Nat} {v : AV} (hx : opndOK x = true) (hT : C.ty t = some l) (hd : l.d = .st fs) (hf : fs[f]? = some (k, ft)) (hlf : C.ty ft = some lf)
    (hs : shift k (s.ev x) = some v) (hop : o.op = .fieldAddr t x f) : OpSound P V a w s o ⟨True, v, s⟩ := by
  obtain ⟨d, hrd, hdd⟩ := (hC _ _ hT).run_underlying w
  rw [hd] at hdd
  obtain ⟨fa, rfl, rfl⟩ := hdd
  obtain ⟨b, q, hv, hrep⟩ := (ev_rep hr x hx).shift hs
  rw [List.getElem?_map, Option.map_eq_some_iff] at hf
  obtain ⟨fld, hfl, hfe⟩ := hf
  simp only [Prod.mk.injEq] at hfe
  obtain ⟨rfl, rfl⟩ := hfe
  have hfl' : fa[f]? = some fld := by simpa using hfl
  have hsz := (hC _ _ hlf).run_sizeOf w
  have hpos := (hC _ _ hlf).pos
  refine .val hr (u := .pointer (some ⟨b, q + fld.offset, none⟩)) ?_ hrep
  have hne : ¬ lf.size = 0 := by omega
  simp only [execOp, hop, hv, Instr.fieldAt, Sem.run_bind, hrd, Result.andThen_ok, hfl', Instr.sureAddr, Sem.run_pure, fieldPlace, hsz]
  simp [hne, addr_add]

theorem snd_field (hC : CfgOK P C) (hr : Rel V a w s) {t f : Nat} {x : Operand} {l lf : TL} {fs : List (Nat × Nat)} {k ft : Nat} {cs : List AV} (hx : opndOK x = true) (hT : C.ty t = some l) (hd : l.d = .st fs) (hf : fs[f]? = some (k, ft)) (hlf : C.ty ft = some lf)
    (hs : s.ev x = .agg cs) (hc : (partA lf cs k).1) (hop : o.op = .field t x f) : OpSound P V a w s o ⟨(partA lf cs k).1, (partA lf cs k).2, s⟩ := by
  obtain ⟨d, hrd, hdd⟩ := (hC _ _ hT).run_underlying w
  rw [hd] at hdd
  obtain ⟨fa, rfl, rfl⟩ := hdd
  have hrx := ev_rep hr x hx
  rw [hs] at hrx
  obtain ⟨cells, hv, hcs⟩ := RepL.of_agg hrx
  rw [List.getElem?_map, Option.map_eq_some_iff] at hf
  obtain ⟨fld, hfl, hfe⟩ := hf
  simp only [Prod.mk.injEq] at hfe
  obtain ⟨rfl, rfl⟩ := hfe
  have hfl' : fa[f]? = some fld := by simpa using hfl
  obtain ⟨u, hu, hrep⟩ := run_part (P := P) (w := w) (hC _ _ hlf) hcs hc
  refine .val hr (u := u) ?_ hrep
  simp only [execOp, hop, hv, Instr.field, Sem.run_bind, hrd, Result.andThen_ok, hfl', asAgg, Sem.run_pure, hu]

theorem snd_indexAddr_sl (hC : CfgOK P C) (hr : Rel V a w s) {t e : Nat} {x i : Operand} {l le : TL} {es : List AV} {tk : Tk} {k : IntKind} {n : Int} (hx : opndOK x = true) (hi : opndOK i = true) (hT : C.ty t = some l) (hd : l.d = .sl e) (hle : C.ty e = some le)
    (hev : s.ev x = .sl es tk) (hev2 : s.ev i = .int k n) {cnd : Prop} (hc : 0 ≤ n ∧ n < es.length ∧ (cellsOf (es.getD n.toNat .any)).length = le.size) (hop : o.op = .indexAddr t x i) :
    OpSound P V a w s o ⟨cnd, .eptr (cellsOf (es.getD n.toNat .any)) 0, s⟩ := by
  obtain ⟨h1, h2, h3⟩ := hc
  obtain ⟨d, hrd, hdd⟩ := (hC _ _ hT).run_underlying w
  rw [hd] at hdd; simp only [DescOK] at hdd; subst hdd
  have hsz := (hC _ _ hle).run_sizeOf w
  have hrx := ev_rep hr x hx
  have hri := ev_rep hr i hi
  rw [hev] at hrx
  rw [hev2] at hri
  generalize hv : a.eval x = u at hrx
  generalize hv2 : a.eval i = u2 at hri
  cases hri
  cases hrx with
  | sl bse len cap _ _ size b q val hl hcap hm hb hs himm hrr ht hf =>
    have hlt : n.toNat < len := by omega
    have hbs := hb (by omega)
    subst hbs
    have hse : size = le.size := by rw [← h3]; exact (hs _ hlt).symm
    subst hse
    refine .val hr (u := .pointer (some ⟨b, q + n.toNat * le.size + 0, none⟩)) ?_ (.eptr _ 0 b (q + n.toNat * le.size) (fun j => val (n.toNat * le.size + j)) (fun j hj => ?_) (fun j hj => ?_))
    · have hcond : 0 ≤ n ∧ n < (len : Int) := by omega
      simp only [execOp, hop, hv, hv2, Instr.indexAt, asIntOf, Sem.run_bind, Sem.run_pure, Result.andThen_ok, hrd]
      simp [hcond, hsz, addr_add]
    · rw [Nat.add_assoc]
      refine himm _ ?_
      rw [h3] at hj
      have : (n.toNat + 1) * le.size ≤ len * le.size := Nat.mul_le_mul_right _ hlt
      rw [Nat.succ_mul] at this; omega
    · rw [h3] at hj
      exact hrr _ _ hlt hj

theorem snd_indexAddr_ms (hC : CfgOK P C) (hr : Rel V a w s) {t e : Nat} {x i : Operand} {l le : TL} {r ver len : Nat} {k : IntKind} {n : Int} (hx : opndOK x = true) (hi : opndOK i = true) (hT : C.ty t = some l) (hd : l.d = .sl e) (hle : C.ty e = some le)
    (hev : s.ev x = .ms r ver len) (hev2 : s.ev i = .int k n) {cnd : Prop} (hc : 0 ≤ n ∧ n < len) (hop : o.op = .indexAddr t x i) :
    OpSound P V a w s o ⟨cnd, .aptr r ver le.size n.toNat 0, s⟩ := by
  obtain ⟨h1, h2⟩ := hc
  obtain ⟨d, hrd, hdd⟩ := (hC _ _ hT).run_underlying w
  rw [hd] at hdd; simp only [DescOK] at hdd; subst hdd
  have hsz := (hC _ _ hle).run_sizeOf w
  have hrx := ev_rep hr x hx
  have hri := ev_rep hr i hi
  rw [hev] at hrx
  rw [hev2] at hri
  generalize hv : a.eval x = u at hrx
  generalize hv2 : a.eval i = u2 at hri
  cases hri
  cases hrx with
  | ms _ _ _ blk cap hl hcap hm hn =>
    cases blk with
    | none =>
      have := hn rfl
      omega
    | some b =>
      refine .val hr (u := .pointer (some ⟨b, n.toNat * le.size + 0, none⟩)) ?_ (.aptr _ _ _ _ _ b cap hl)
      have hcond : 0 ≤ n ∧ n < (len : Int) := by omega
      simp only [execOp, hop, hv, hv2, Instr.indexAt, asIntOf, Sem.run_bind, Sem.run_pure, Result.andThen_ok, hrd]
      simp [hcond, hsz, addr_add, baseOf]

end
end Go.Ab
