/- The executor's operations run as the model's do: slices of slices, maps, builtins; all joined. Condition: the executor's table of types is the program's. -/
import Derived.Test.YtcpfjabjonpdaaaAbC
set_option linter.unusedSimpArgs false
namespace Go.Ab
open Go.RowKit (Below)

theorem bytes_eq {a b : ByteArray} (h : (a == b) = true) : a = b := by
  cases a with | mk x => cases b with | mk y =>
  have h' : (x == y) = true := h
  rw [beq_iff_eq] at h'
  rw [h']

section
variable {P : Program} {C : Cfg} {V : View} {w : World} {s : AState} {a : Act} {o : Oper}

theorem optInt_rep {V : View} {x : Option AV} {u : Option Value} {d n : Int} (h : optInt x d = some n) (hu : (x = none ∧ u = none) ∨ ∃ y v, x = some y ∧ u = some v ∧ Rep V v y) :
    (u = none ∧ x = none ∧ n = d) ∨ ∃ k, u = some (.int k n) ∧ x = some (.int k n) := by
  rcases hu with ⟨rfl, rfl⟩ | ⟨y, v, rfl, rfl, hr⟩
  · simp only [optInt, Option.some.injEq] at h; exact .inl ⟨rfl, rfl, h.symm⟩
  · cases hr <;> simp [optInt] at h
    subst h
    exact .inr ⟨_, rfl, rfl⟩

theorem map_ev (hr : Rel V a w s) {x : Option Operand} (hx : ∀ y, x = some y → opndOK y = true) : (x.map s.ev = none ∧ x.map a.eval = none) ∨ ∃ y v, x.map s.ev = some y ∧ x.map a.eval = some v ∧ Rep V v y := by
  cases x with
  | none => exact .inl ⟨rfl, rfl⟩
  | some y => exact .inr ⟨_, _, rfl, rfl, ev_rep hr y (hx y rfl)⟩

theorem run_bound {k : IntKind} {n : Int} {y : Nat} {code : BoundsCode} (h : 0 ≤ n ∧ n ≤ y) : (Instr.sliceBound (.int k n) y code).run P w = .ok n.toNat w := by
  simp only [Instr.sliceBound, asIntOf, Sem.run_bind, Sem.run_pure, Result.andThen_ok]
  rw [if_pos h]
  rfl

theorem sl_sub {V : View} {base : Option Addr} {len cap : Nat} {es : List AV} {tk : Tk} {size : Nat} (h : Rep V (.slice base len cap) (.sl es tk)) (hsz : ∀ y ∈ es, (cellsOf y).length = size) {l h' : Nat} (hl : l ≤ h') (hh : h' ≤ len) :
    Rep V (.slice (if cap = l then base else base.map (·.add (l * size))) (h' - l) (cap - l)) (.sl ((es.take h').drop l) .no) := by
  cases h with
  | sl _ _ _ _ _ size' b q val hlen hcap hm hb hs hi hr ht hf =>
    rcases Nat.eq_or_lt_of_le hl with he | hlt
    · subst he
      have h0 : ((es.take l).drop l) = [] := List.drop_eq_nil_of_le (by simp; omega)
      rw [h0, Nat.sub_self]
      exact .sl _ 0 (cap - l) [] .no 0 0 0 (fun _ => undef) rfl (Nat.zero_le _) (by omega) (fun h => absurd h (by omega)) (fun i h => absurd h (by omega)) (fun j h => absurd h (by omega)) (fun i j h => absurd h (by omega)) (fun r h => by cases h) (fun h => by cases h)
    · have hse : size' = size := by
        have h1 := hs 0 (by omega)
        have h2 := hsz (es.getD 0 .any) (by rw [getD_lt _ (by omega)]; exact List.getElem_mem _)
        omega
      subst hse
      rw [if_neg (by omega)]
      have hget : ∀ i, i < h' - l → ((es.take h').drop l).getD i .any = es.getD (l + i) .any := fun i hi => by
        simp [List.getD_eq_getElem?_getD, List.getElem?_drop, List.getElem?_take, show l + i < h' by omega]
      refine .sl _ (h' - l) (cap - l) _ .no size' b (q + l * size') (fun j => val (l * size' + j)) (by simp; omega) (by omega) (by omega) (fun _ => ?_) (fun i hi' => ?_) (fun j hj => ?_) (fun i j hi' hj => ?_) (fun r h => by cases h) (fun h => by cases h)
      · rw [hb (by omega)]; simp [addr_add]
      · rw [hget i hi']; exact hs _ (by omega)
      · rw [Nat.add_assoc]
        refine hi _ ?_
        have : (l + (h' - l)) * size' ≤ len * size' := Nat.mul_le_mul_right _ (by omega)
        rw [Nat.add_mul] at this; omega
      · rw [hget i hi', show l * size' + (i * size' + j) = (l + i) * size' + j by rw [Nat.add_mul]; omega]
        exact hr _ _ (by omega) hj

theorem snd_slice (hC : CfgOK P C) (hr : Rel V a w s) {t e : Nat} {l le : TL} {x : Operand} {lo hi mx : Option Operand} {out : Out} (hx : opndOK x = true) (h1 : ∀ y, lo = some y → opndOK y = true) (h2 : ∀ y, hi = some y → opndOK y = true) (h3 : ∀ y, mx = some y → opndOK y = true)
    (hT : C.ty t = some l) (hd : l.d = .sl e) (hle : C.ty e = some le) (h : effSlice le.size (s.ev x) (lo.map s.ev) (hi.map s.ev) (mx.map s.ev) s = some out) (hc : out.c) (hop : o.op = .slice t x lo hi mx) : OpSound P V a w s o out := by
  obtain ⟨d, hrd, hdd⟩ := (hC _ _ hT).run_underlying w
  rw [hd] at hdd; simp only [DescOK] at hdd; subst hdd
  have hsz := (hC _ _ hle).run_sizeOf w
  have hrx := ev_rep hr x hx
  have e1 := map_ev hr h1
  have e2 := map_ev hr h2
  have e3 := map_ev hr h3
  generalize hvx : a.eval x = vx at hrx
  generalize hax : s.ev x = ax at h hrx
  generalize hvl : lo.map a.eval = vl at e1
  generalize hal : lo.map s.ev = al at h e1
  generalize hvh : hi.map a.eval = vh at e2
  generalize hah : hi.map s.ev = ah at h e2
  generalize hvm : mx.map a.eval = vm at e3
  generalize ham : mx.map s.ev = am at h e3
  have hexec : (execOp a.eval o).run P w = ((Instr.sliceAt t vx vl vh vm).run P w).andThen fun u w' => .ok (.value u) w' := by
    simp only [execOp, hop, hvx, hvl, hvh, hvm, Sem.run_bind, Sem.run_pure]
  have hsa : (Instr.sliceAt t vx vl vh vm).run P w = (Instr.slice t vx vl vh vm).run P w := by
    simp only [Instr.sliceAt, Sem.run_bind, hrd, Result.andThen_ok]
  cases ax with
  | sl es tk =>
    simp only [effSlice] at h
    have hrx' := hrx
    cases hrx with
    | sl bse len cap _ _ size b q val hl hcap hm hb hs himm hrr ht hf =>
      split at h
      · -- no bound on the capacity
        split at h
        · rename_i n m hn hm'
          simp only [Option.some.injEq] at h
          subst h
          obtain ⟨g1, g2, g3, g4⟩ := hc
          have f1 := optInt_rep hn e1
          have f2 := optInt_rep hm' e2
          rcases e3 with ⟨-, rfl⟩ | ⟨y, v, hh, _⟩
          case inr => cases hh
          have hb2 : (Instr.sliceBounds true len cap vl vh none).run P w = .ok (n.toNat, m.toNat, cap) w := by
            have rl : ∀ k code, (Instr.sliceBound (.int k n) m.toNat code).run P w = .ok n.toNat w := fun k code => run_bound ⟨by omega, by omega⟩
            have rh : ∀ k code, (Instr.sliceBound (.int k m) cap code).run P w = .ok m.toNat w := fun k code => run_bound ⟨by omega, by omega⟩
            rcases f1 with ⟨rfl, -, h0⟩ | ⟨k1, rfl, -⟩ <;> rcases f2 with ⟨rfl, -, h1⟩ | ⟨k2, rfl, -⟩
            · have e0 : n.toNat = 0 := by omega
              have e1 : m.toNat = len := by omega
              simp only [Instr.sliceBounds, Sem.run_bind, Sem.run_pure, Result.andThen_ok, e0, e1]
            · have e0 : n.toNat = 0 := by omega
              simp only [Instr.sliceBounds, Sem.run_bind, Sem.run_pure, Result.andThen_ok, rh, e0]
            · have e1 : m.toNat = len := by omega
              rw [e1] at rl
              simp only [Instr.sliceBounds, Sem.run_bind, Sem.run_pure, Result.andThen_ok, rl, e1]
            · simp only [Instr.sliceBounds, Sem.run_bind, Sem.run_pure, Result.andThen_ok, rh, rl]
          have hsub := sl_sub hrx' g4 (l := n.toNat) (h' := m.toNat) (by omega) (by omega)
          refine .val hr (u := _) ?_ hsub
          rw [hexec, hsa]
          simp only [Instr.slice, Sem.run_bind, hrd, Result.andThen_ok, hb2, hsz, Sem.run_pure]
        · cases h
      · -- empty, without room
        rename_i kk mm
        split at h
        · rename_i n m hn hm'
          simp only [Option.some.injEq] at h
          subst h
          obtain ⟨g1, rfl, rfl, g4, g5⟩ := hc
          have f1 := optInt_rep hn e1
          have f2 := optInt_rep hm' e2
          rcases e3 with ⟨hh, -⟩ | ⟨y, v, hh, rfl, hrm⟩
          case inl => cases hh
          simp only [Option.some.injEq] at hh
          subst hh
          cases hrm
          obtain ⟨k2, rfl, rfl⟩ : ∃ k, vh = some (.int k n) ∧ ah = some (.int k n) := by
            rcases f2 with ⟨-, rfl, -⟩ | hh
            · simp at g5
            · exact hh
          have hb2 : (Instr.sliceBounds true len cap vl (some (.int k2 n)) (some (.int kk n))).run P w = .ok (n.toNat, n.toNat, n.toNat) w := by
            have r0 : ∀ code, (Instr.sliceBound (.int kk n) cap code).run P w = .ok n.toNat w := fun code => run_bound ⟨by omega, by omega⟩
            have r2 : ∀ k code, (Instr.sliceBound (.int k n) n.toNat code).run P w = .ok n.toNat w := fun k code => run_bound ⟨by omega, by omega⟩
            rcases f1 with ⟨rfl, -, h0⟩ | ⟨k1, rfl, -⟩
            · have e0 : n.toNat = 0 := by omega
              rw [e0] at r2 r0
              simp only [Instr.sliceBounds, Sem.run_bind, Sem.run_pure, Result.andThen_ok, r0, r2, e0]
            · simp only [Instr.sliceBounds, Sem.run_bind, Sem.run_pure, Result.andThen_ok, r0, r2]
          refine .val hr (u := .slice bse 0 0) ?_ (.sl _ 0 0 [] .full 0 0 0 (fun _ => undef) rfl (Nat.zero_le _) (Nat.zero_le _) (fun h => absurd h (by omega)) (fun i h => absurd h (by omega)) (fun j h => absurd h (by omega)) (fun i j h => absurd h (by omega)) (fun r h => by cases h) (fun _ => rfl))
          rw [hexec, hsa]
          simp only [Instr.slice, Sem.run_bind, hrd, Result.andThen_ok, hb2, hsz, Sem.run_pure, if_true, Nat.sub_self]
        · cases h
      · cases h
  | ms r ver len =>
    simp only [effSlice] at h
    split at h
    · rename_i kk m
      simp only [Option.some.injEq] at h
      subst h
      obtain ⟨g1, g2⟩ := hc
      rcases e1 with ⟨-, rfl⟩ | ⟨y, v, hh, _⟩
      case inr => cases hh
      rcases e3 with ⟨-, rfl⟩ | ⟨y, v, hh, _⟩
      case inr => cases hh
      rcases e2 with ⟨hh, -⟩ | ⟨y, v, hh, rfl, hrm⟩
      case inl => cases hh
      simp only [Option.some.injEq] at hh
      subst hh
      cases hrm
      cases hrx with
      | ms _ _ _ blk cap hl hcap hm hn =>
        have hb2 : (Instr.sliceBounds true len cap none (some (.int kk m)) none).run P w = .ok (0, m.toNat, cap) w := by
          have r2 := run_bound (P := P) (w := w) (k := kk) (n := m) (y := cap) (code := if true then .sliceAcap else .sliceAlen) ⟨by omega, by omega⟩
          simp only [Instr.sliceBounds, Sem.run_bind, Sem.run_pure, Result.andThen_ok] at r2 ⊢
          simp only [r2, Result.andThen_ok]
        refine .val hr (u := .slice (baseOf blk) m.toNat cap) ?_ (.ms r ver m.toNat blk cap hl (by omega) hm hn)
        rw [hexec, hsa]
        simp only [Instr.slice, Sem.run_bind, hrd, Result.andThen_ok, hb2, hsz, Sem.run_pure, Nat.sub_zero]
        congr 3
        cases blk with
        | none => simp [baseOf]
        | some b => simp [baseOf, addr_add]
    · cases h
  | _ => simp [effSlice] at h

/-! Maps. -/

theorem findA_sound {d : TD} {kind : TypeDesc} (hd : DescOK kind d) {kv : Value} {ka : AV} (hk : Rep V kv ka) : ∀ (es : List (AV × AV)) (en : List MapEntry) (i : Nat) {f : Option (Nat × AV)}, RepMap V en es → findA d ka es i = some f →
    ∃ f', Instr.findNow kind kv en i = some f' ∧ ((f = none ∧ f' = none) ∨ ∃ j x v e, f = some (j, x) ∧ f' = some (j, v) ∧ Rep V v x ∧ i ≤ j ∧ en[j - i]? = some e ∧ e.key = kv)
  | [], en, i, f, hr, h => by
    have : en = [] := List.eq_nil_of_length_eq_zero (by simpa using hr.1)
    subst this
    simp only [findA, Option.some.injEq] at h
    exact ⟨none, rfl, .inl ⟨h.symm, rfl⟩⟩
  | p :: es, en, i, f, hr, h => by
    cases en with
    | nil => simp [RepMap] at hr
    | cons e en =>
      obtain ⟨hk1, hv1⟩ := hr.2 0 (by simp) e p rfl rfl
      have hr' : RepMap V en es := ⟨by simpa using hr.1, fun j hj e' p' he hp => hr.2 (j + 1) (by simpa using hj) e' p' (by simpa using he) (by simpa using hp)⟩
      have hstep : ∀ b, keyEq d ka p.1 = some b → Instr.sameNow kind kv e.key = some b ∧ (b = true → e.key = kv) := by
        intro b hb
        generalize hek : e.key = ek at hk1
        generalize hpk : p.1 = pk at hk1 hb
        cases hk with
        | int k n _ _ =>
          cases hk1 with
          | int k' n' _ _ =>
            cases d <;> simp only [keyEq] at hb <;> try (cases hb)
            simp only [DescOK] at hd
            subst hd
            split at hb
            · rename_i hkk; subst hkk
              simp only [Option.some.injEq] at hb
              subst hb
              refine ⟨by simp [Instr.sameNow], fun h => ?_⟩
              simp at h; rw [h]
            · cases hb
          | _ => cases d <;> simp [keyEq] at hb
        | str n _ =>
          cases hk1 with
          | str n' _ =>
            cases d <;> simp only [keyEq] at hb <;> try (cases hb)
            simp only [DescOK] at hd
            subst hd
            refine ⟨by simp [Instr.sameNow], fun h => ?_⟩
            exact (congrArg Value.string (bytes_eq h)).symm
          | _ => cases d <;> simp [keyEq] at hb
        | _ => cases d <;> simp [keyEq] at hb
      simp only [findA] at h
      cases hke : keyEq d ka p.1 with
      | none => rw [hke] at h; simp at h
      | some b =>
        obtain ⟨hs, hek⟩ := hstep b hke
        rw [hke] at h
        cases b with
        | true =>
          simp only [Option.some.injEq] at h
          subst h
          exact ⟨some (i, e.val), by simp only [Instr.findNow, hs], .inr ⟨i, p.2, e.val, e, rfl, rfl, hv1, Nat.le_refl _, by simp, hek rfl⟩⟩
        | false =>
          simp only at h
          obtain ⟨f', h1, h2⟩ := findA_sound hd hk es en (i + 1) hr' h
          refine ⟨f', by simp only [Instr.findNow, hs, h1], ?_⟩
          rcases h2 with h2 | ⟨j, x, v, e', g1, g2, g3, g4, g5, g6⟩
          · exact .inl h2
          · refine .inr ⟨j, x, v, e', g1, g2, g3, by omega, ?_, g6⟩
            rw [show j - i = (j - (i + 1)) + 1 by omega]
            simpa using g5

theorem run_checkKey {kt : Nat} {l : TL} (hT : TyOK P kt l) {kv : Value} {ka : AV} (hk : Rep V kv ka) (ho : keyOK l.d ka = true) (em : Bool) (d : Nat) : (Instr.checkKey em (d + 1) kt kv).run P w = .ok () w := by
  obtain ⟨ds, hrd, hdd⟩ := hT.run_underlying w
  simp only [Instr.checkKey, Sem.run_bind, hrd, Result.andThen_ok]
  cases hk with
  | int k n _ _ =>
    cases hd : l.d <;> rw [hd] at ho hdd <;> simp [keyOK] at ho
    simp only [DescOK] at hdd; subst hdd
    rfl
  | str n _ =>
    cases hd : l.d <;> rw [hd] at ho hdd <;> simp [keyOK] at ho
    simp only [DescOK] at hdd; subst hdd
    rfl
  | _ => cases hd : l.d <;> rw [hd] at ho <;> simp [keyOK] at ho

theorem run_findKey {kt : Nat} {l : TL} (hT : TyOK P kt l) {kv : Value} {en : List MapEntry} {f' : Option (Nat × Value)} (h : ∀ kind, P.underlying kt = some kind → Instr.findNow kind kv en 0 = some f') : (Instr.findKey kt kv en).run P w = .ok f' w := by
  obtain ⟨ds, hds, _⟩ := hT.desc
  simp only [Instr.findKey, Sem.run_bind, Go.run_underlying hds, Result.andThen_ok, h ds hds, Sem.run_pure]

theorem map_obj (hr : RelW V w s) {r : Nat} {es : List (AV × AV)} (ho : s.obj r = some (.map es)) {b c : Nat} (hl : V.loc r 0 = some (some b, c)) :
    ∃ entries clock, w.heap[b]? = some (.map entries clock) ∧ V.base ≤ b ∧ RepMap V entries.toList es ∧ ∀ o, V.imm b o = none := by
  obtain ⟨b', c', entries, clock, h1, h2, h3, h4, h5⟩ := hr.inv.objs r _ ho
  rw [hl] at h1
  simp only [Option.some.injEq, Prod.mk.injEq] at h1
  obtain ⟨rfl, rfl⟩ := h1
  exact ⟨entries, clock, h2, h3, h4, h5⟩

theorem run_getObj {b : Nat} {entries : Array MapEntry} {clock : Nat} (hg : w.heap[b]? = some (.map entries clock)) : (getObj b).run P w = .ok (.map entries clock) w := by
  simp only [getObj, Sem.run, hg]

theorem run_setObj {b : Nat} {entries : Array MapEntry} {clock : Nat} (hg : w.heap[b]? = some (.map entries clock)) (ob : Obj) : (setObj b ob).run P w = .ok () { w with heap := w.heap.setIfInBounds b ob } := by
  simp only [setObj, Sem.run, hg]

theorem snd_lookup (hC : CfgOK P C) (hr : Rel V a w s) {t kt vt : Nat} {m k : Operand} {ok : Bool} {l lk lv : TL} {r : Nat} {es : List (AV × AV)} {f : Option (Nat × AV)} (hm : opndOK m = true) (hk : opndOK k = true)
    (hT : C.ty t = some l) (hd : l.d = .map kt vt) (hlk : C.ty kt = some lk) (hlv : C.ty vt = some lv) (hev : s.ev m = .mp r) (ho : s.obj r = some (.map es)) (hf : findA lk.d (s.ev k) es 0 = some f) (hc : keyOK lk.d (s.ev k) = true)
    (hop : o.op = .lookup t m k ok) : OpSound P V a w s o ⟨keyOK lk.d (s.ev k) = true, if ok then .tup [foundOr lv.zero f, .bool f.isSome] else foundOr lv.zero f, s⟩ := by
  obtain ⟨d, hrd, hdd⟩ := (hC _ _ hT).run_underlying w
  rw [hd] at hdd; simp only [DescOK] at hdd; subst hdd
  have hrm := ev_rep hr m hm
  have hrk := ev_rep hr k hk
  rw [hev] at hrm
  generalize hvm : a.eval m = vm at hrm
  cases hrm with
  | mp _ b c hl =>
    obtain ⟨entries, clock, hg, _, hmap, _⟩ := map_obj hr.toW ho hl
    obtain ⟨kd, hkd, hkk⟩ := (hC _ _ hlk).desc
    obtain ⟨f', hf1, hf2⟩ := findA_sound hkk hrk es entries.toList 0 hmap hf
    have hfk := run_findKey (P := P) (w := w) (hC _ _ hlk) (kv := a.eval k) (en := entries.toList) (f' := f') (fun kind hh => by rw [hkd] at hh; cases hh; exact hf1)
    have hck := run_checkKey (P := P) (w := w) (hC _ _ hlk) hrk hc entries.isEmpty 9999
    obtain ⟨z, hz, hzr⟩ := (hC _ _ hlv).run_zero w
    have hpre : ∀ (K : Value × Bool → Sem Value), (match f' with | some (_, v) => K (v, true) | none => zeroValue vt >>= fun z => K (z, false)).run P w = (K ((match f' with | some (_, v) => v | none => z), f'.isSome)).run P w := by
      intro K
      cases f' with
      | none => simp only [Sem.run_bind, hz, Result.andThen_ok, Option.isSome_none]
      | some p => rfl
    have hval : Rep V (match f' with | some (_, v) => v | none => z) (foundOr lv.zero f) ∧ f'.isSome = f.isSome := by
      rcases hf2 with ⟨rfl, rfl⟩ | ⟨j, x, v, e, rfl, rfl, hv, _⟩
      · exact ⟨hzr V, rfl⟩
      · exact ⟨hv, rfl⟩
    refine .val hr (u := if ok then .tuple #[(match f' with | some (_, v) => v | none => z), .bool f'.isSome] else (match f' with | some (_, v) => v | none => z)) ?_ ?_
    · simp only [execOp, hop, hvm, Instr.lookup, Sem.run_bind, hrd, Result.andThen_ok, run_getObj hg, Sem.run_pure, hck, hfk]
      cases f' with
      | none => simp only [Sem.run_bind, hz, Result.andThen_ok, Sem.run_pure, Option.isSome_none]
      | some p => simp only [Sem.run_bind, Result.andThen_ok, Sem.run_pure, Option.isSome_some]
    · cases ok with
      | false => simpa using hval.1
      | true =>
        simp only [if_true]
        refine RepL.tup ?_
        rw [hval.2]
        exact .cons hval.1 (.cons (.bool _) (.nil V))

theorem sameBits_refl {V : View} {v : Value} {x : AV} (h : Rep V v x) {d : TD} (ho : keyOK d x = true) (n : Nat) : Instr.sameBits n v v = true := by
  cases h with
  | int k m _ _ => simp [Instr.sameBits]
  | str b _ =>
    have : (b.data == b.data) = true := beq_self_eq_true b.data
    unfold Instr.sameBits
    exact this
  | _ => cases d <;> simp [keyOK] at ho

theorem RepMap.set {V : View} {en : List MapEntry} {es : List (AV × AV)} (h : RepMap V en es) {i : Nat} {e : MapEntry} {p : AV × AV} (hk : Rep V e.key p.1) (hv : Rep V e.val p.2) : RepMap V (en.set i e) (es.set i p) := by
  refine ⟨by simp [h.1], fun j hj e' p' he hp => ?_⟩
  simp only [List.length_set] at hj
  rw [List.getElem?_set] at he hp
  by_cases hij : i = j
  · subst hij
    simp only [if_true, hj] at hp
    rw [if_pos rfl, if_pos (by rw [h.1]; exact hj)] at he
    cases he; cases hp
    exact ⟨hk, hv⟩
  · rw [if_neg hij] at he hp
    exact h.2 j hj e' p' he hp

theorem RepMap.push {V : View} {en : List MapEntry} {es : List (AV × AV)} (h : RepMap V en es) {e : MapEntry} {p : AV × AV} (hk : Rep V e.key p.1) (hv : Rep V e.val p.2) : RepMap V (en ++ [e]) (es ++ [p]) := by
  refine ⟨by simp [h.1], fun j hj e' p' he hp => ?_⟩
  rw [List.getElem?_append] at he hp
  by_cases h1 : j < es.length
  · rw [if_pos h1] at hp
    rw [if_pos (by rw [h.1]; exact h1)] at he
    exact h.2 j h1 e' p' he hp
  · rw [if_neg h1] at hp
    rw [if_neg (by rw [h.1]; exact h1)] at he
    have : j = es.length := by simp at hj; omega
    subst this
    rw [h.1] at he
    simp at he hp
    subst he; subst hp
    exact ⟨hk, hv⟩

theorem snd_mapUpdate (hC : CfgOK P C) (hr : Rel V a w s) {t kt vt : Nat} {m k x : Operand} {l lk : TL} {r : Nat} {es : List (AV × AV)} {f : Option (Nat × AV)} (hm : opndOK m = true) (hk : opndOK k = true) (hx : opndOK x = true)
    (hT : C.ty t = some l) (hd : l.d = .map kt vt) (hlk : C.ty kt = some lk) (hev : s.ev m = .mp r) (ho : s.obj r = some (.map es)) (hf : findA lk.d (s.ev k) es 0 = some f) {cnd : Prop}
    (hc : keyOK lk.d (s.ev k) = true ∧ (r < s.b → (s.ev k).bel s.b = true ∧ (s.ev x).bel s.b = true)) (hop : o.op = .mapUpdate t m k x ∨ o.op = .insert t m k x) :
    OpSound P V a w s o ⟨cnd, .any, s.setObj r (.map (mapPut es f (s.ev k) (s.ev x)))⟩ := by
  obtain ⟨hc1, hc2⟩ := hc
  obtain ⟨d, hrd, hdd⟩ := (hC _ _ hT).run_underlying w
  rw [hd] at hdd; simp only [DescOK] at hdd; subst hdd
  have hrm := ev_rep hr m hm
  have hrk := ev_rep hr k hk
  have hrx := ev_rep hr x hx
  rw [hev] at hrm
  generalize hvm : a.eval m = vm at hrm
  cases hrm with
  | mp _ b c hl =>
    obtain ⟨entries, clock, hg, hbase, hmap, himm⟩ := map_obj hr.toW ho hl
    obtain ⟨kd, hkd, hkk⟩ := (hC _ _ hlk).desc
    obtain ⟨f', hf1, hf2⟩ := findA_sound hkk hrk es entries.toList 0 hmap hf
    have hfk := run_findKey (P := P) (w := w) (hC _ _ hlk) (kv := a.eval k) (en := entries.toList) (f' := f') (fun kind hh => by rw [hkd] at hh; cases hh; exact hf1)
    have hck := run_checkKey (P := P) (w := w) (hC _ _ hlk) hrk hc1 false 9999
    have hexec : (execOp a.eval o).run P w = ((Instr.mapUpdate t (.map (some b)) (a.eval k) (a.eval x)).run P w).andThen fun _ w' => .ok .skip w' := by
      rcases hop with hop | hop <;> simp only [execOp, hop, hvm, Sem.run_bind, Sem.run_pure]
    -- what the map becomes
    obtain ⟨en', cl', hmap', hrun⟩ : ∃ en' : Array MapEntry, ∃ cl', RepMap V en'.toList (mapPut es f (s.ev k) (s.ev x)) ∧
        (Instr.mapUpdate t (.map (some b)) (a.eval k) (a.eval x)).run P w = .ok () { w with heap := w.heap.setIfInBounds b (.map en' cl') } := by
      rcases hf2 with ⟨rfl, rfl⟩ | ⟨j, y, v, e, rfl, rfl, hv, _, hej, hek⟩
      · refine ⟨entries.push { key := a.eval k, val := a.eval x, born := clock }, clock + 1, by simpa [mapPut] using hmap.push (e := { key := a.eval k, val := a.eval x, born := clock }) (p := (s.ev k, s.ev x)) hrk hrx, ?_⟩
        simp only [Instr.mapUpdate, Sem.run_bind, hrd, Result.andThen_ok, run_getObj hg, hck, hfk, run_setObj hg]
      · simp only [Nat.sub_zero] at hej
        have hej' : entries[j]? = some e := by simpa using hej
        refine ⟨entries.modify j fun e => { e with key := a.eval k, val := a.eval x }, clock, ?_, ?_⟩
        · have h1 : (entries.modify j fun e => { e with key := a.eval k, val := a.eval x }).toList = entries.toList.set j { e with key := a.eval k, val := a.eval x } := by
            apply List.ext_getElem?
            intro q
            rw [Array.getElem?_toList, Array.getElem?_modify, List.getElem?_set]
            by_cases hq : j = q
            · subst hq
              have hlt : j < entries.size := (Array.getElem?_eq_some_iff.1 hej').1
              rw [if_pos rfl, if_pos rfl, hej', if_pos (by simpa using hlt)]
              rfl
            · rw [if_neg hq, if_neg hq]; simp
          rw [h1]
          exact hmap.set (e := { e with key := a.eval k, val := a.eval x }) (p := (s.ev k, s.ev x)) hrk hrx
        · have hks : (Instr.keyThatStays e.key (a.eval k)).run P w = .ok (a.eval k) w := by
            unfold Instr.keyThatStays
            rw [hek, if_pos (sameBits_refl hrk hc1 10000)]
            rfl
          simp only [Instr.mapUpdate, Sem.run_bind, hrd, Result.andThen_ok, run_getObj hg, hck, hfk, hej', Option.map_some, Option.getD_some, hks, run_setObj hg]
    have hlt : b < w.heap.size := (Array.getElem?_eq_some_iff.1 hg).1
    refine ⟨.skip, { w with heap := w.heap.setIfInBounds b (.map en' cl') }, V, by rw [hexec, hrun]; rfl, .refl V, ⟨rfl, rfl, rfl, by simp, fun q hq => ?_⟩, ?_, setObj_env _ _ _, setObj_n _ _ _, setObj_b _ _ _, .inr ⟨rfl, rfl⟩⟩
    · simp only; rw [Array.getElem?_setIfInBounds_ne (by omega)]
    · refine hr.toW.setObj ho (hr.inv.write r _ _ ho b (by simp [own, hl]) (by simp) (fun q hq => by simp only; rw [Array.getElem?_setIfInBounds_ne (Ne.symm hq)]) V (.refl V) (fun _ _ _ => rfl) (fun o v hv => by rw [himm o] at hv; cases hv) (fun _ _ _ => rfl) ?_ (by simp [own, hl])) ?_
      · exact ⟨b, c, en', cl', hl, by simp only; rw [Array.getElem?_setIfInBounds_self_of_lt hlt], hbase, hmap', himm⟩
      · intro hlt'
        have hb0 : (AObj.map es).bel s.b = true := hr.bel _ (by unfold AState.obj at ho; rw [if_pos hlt'] at ho; exact List.mem_of_getElem? ho)
        obtain ⟨g1, g2⟩ := hc2 hlt'
        simp only [AObj.bel, Bool.and_eq_true, belL_iff, List.mem_map, forall_exists_index, and_imp, forall_apply_eq_imp_iff₂] at hb0 ⊢
        have key : ∀ p ∈ mapPut es f (s.ev k) (s.ev x), p ∈ es ∨ p = (s.ev k, s.ev x) := by
          intro p hp
          cases f with
          | none => simpa [mapPut] using hp
          | some q => exact List.mem_or_eq_of_mem_set hp
        exact ⟨fun p hp => (key p hp).elim (hb0.1 p) (fun h => by rw [h]; exact g1), fun p hp => (key p hp).elim (hb0.2 p) (fun h => by rw [h]; exact g2)⟩

end
end Go.Ab
